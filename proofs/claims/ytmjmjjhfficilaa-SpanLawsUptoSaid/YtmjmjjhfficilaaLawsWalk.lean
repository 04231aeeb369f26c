/- What is proved: contracts of functions that the law uses, each under the conditions that its theorem states. -/
import Derived.Test.YtmjmjjhfficilaaPSpanLawsx0
import Derived.Test.YtmjmjjhfficilaaPSpanLawsx1
import Derived.Test.YtmjmjjhfficilaaPSpanLawsx2
import Derived.Test.YtmjmjjhfficilaaPSpanLawsx3
import Derived.Test.YtmjmjjhfficilaaPSpanLawsx4
namespace Go.Proofs.Ytmjmjjhfficilaa.PSpanLaws
open Go.RowKit Go.Proofs.YtmjmjjhfficilaaW.PrintWords Go.Proofs.YtmjmjjhfficilaaW.PrintLast Go.Proofs.YtmjmjjhfficilaaW.PrintMore
set_option linter.unusedVariables false
set_option linter.unusedSimpArgs false
/-! #### equal, awake -/
section
open Go.Proofs.Ytmjmjjhfficilaa.Texts
def pX (x : S52) : R := (x.f0.toList, x.f1.toList)
theorem rdX (l : List S52) (i : Nat) (h : i < l.length) : rd_T52 l (i : Int) = l[i] := by unfold rd_T52; simp [List.getD, List.getElem?_eq_getElem h]
theorem same_f (got : List S29) (wnt : List S52) (h : got.map pR = wnt.map pX) (hl : got.length ≤ 4294967296) : ∀ (m i k : Nat), i + m = got.length → 2 * m + 2 ≤ k → hawserlaw06_same.l0 k got wnt (i : Int) = some true := by
  have hlen : got.length = wnt.length := by have := congrArg List.length h; simpa using this
  intro m
  induction m with
  | zero =>
    intro i k hi hk
    obtain ⟨k, rfl⟩ : ∃ q, k = q + 2 := ⟨k - 2, by omega⟩
    rw [hawserlaw06_same.l0, if_neg (by omega), hawserlaw06_same.j1, if_neg (by decide), hlen]
    simp
  | succ m ih =>
    intro i k hi hk
    obtain ⟨k, rfl⟩ : ∃ q, k = q + 2 := ⟨k - 2, by omega⟩
    have hlt : i < got.length := by omega
    have hlt2 : i < wnt.length := by omega
    have e := congrArg (fun l => l[i]?) h
    simp only [List.getElem?_map, List.getElem?_eq_getElem hlt, List.getElem?_eq_getElem hlt2, Option.map_some] at e
    injection e with e
    have e0 : got[i].f0.toList = wnt[i].f0.toList := congrArg Prod.fst e
    have e1 : got[i].f1.toList = wnt[i].f1.toList := congrArg Prod.snd e
    rw [hawserlaw06_same.l0, if_pos (by omega), show decide ((i : Int) < (wnt.length : Int)) = true from decide_eq_true (by omega), hawserlaw06_same.j1, if_pos rfl, if_pos (by omega), if_pos (by omega), if_pos (by omega), rdR got i hlt, rdX wnt i hlt2, if_pos e0, if_pos e1, w_up i (by omega)]
    exact ih (i + 1) k (by omega) (by omega)
def conv (x : S29) : S52 := ⟨x.f0, x.f1⟩
theorem plain_l0 (l : List S29) (hl : l.length ≤ 1073741824) : ∀ (m i k : Nat), i + m = l.length → hawserlaw06_plain.l0 (m + 1 + k) l ((l.take i).map conv) (i : Int) = some (l.map conv) := by
  intro m
  induction m with
  | zero =>
    intro i k hi
    obtain rfl : i = l.length := by omega
    rw [show 0 + 1 + k = k + 1 by omega, hawserlaw06_plain.l0, if_neg (by omega), List.take_length]
  | succ m ih =>
    intro i k hi
    have hlt : i < l.length := by omega
    have h := ih (i + 1) k (by omega)
    rw [List.take_add_one, List.getElem?_eq_getElem hlt, List.map_append] at h
    rw [show m + 1 + 1 + k = (m + 1 + k) + 1 by omega, hawserlaw06_plain.l0, if_pos (by omega), if_pos (by omega), if_pos (by simp; omega), rdR l i hlt, w_up i (by omega)]
    exact h
theorem conv_p (l : List S29) : (l.map conv).map pX = l.map pR := by rw [List.map_map]; rfl

theorem equal_rows (l m : List S29) (e : l.map pR = m.map pR) (hm : m.length ≤ 1073741824) : ∃ k, hawserlaw06_equal.f k l m = some true := by
  have hl : l.length = m.length := by have := congrArg List.length e; simpa using this
  have h1 := plain_l0 m hm m.length 0 (m.length + 1) (by omega)
  have h2 := same_f l (m.map conv) (by rw [conv_p]; exact e) (by omega) l.length 0 (2 * l.length + 2) (by omega) (Nat.le_refl _)
  refine ⟨m.length + 1 + (m.length + 1), ?_⟩
  unfold hawserlaw06_equal.f hawserlaw06_plain.f hawserlaw06_same.f
  have h3 : hawserlaw06_plain.l0 (m.length + 1 + (m.length + 1)) m [] 0 = some (m.map conv) := h1
  rw [show 2 * l.length + 2 = m.length + 1 + (m.length + 1) by omega] at h2
  have h4 : hawserlaw06_same.l0 (m.length + 1 + (m.length + 1)) l (m.map conv) 0 = some true := h2
  rw [h3, Option.bind_some, h4, Option.bind_some]
theorem mkL (l : List UInt8) : (⟨l.toArray⟩ : ByteArray).toList = l := by rw [ByteArray.toList_eq]
theorem rB_p : pR rB = ([98], [99]) := by unfold pR rB; rw [show ((⟨#[98]⟩ : ByteArray).toList) = [98] from mkL [98], show ((⟨#[99]⟩ : ByteArray).toList) = [99] from mkL [99]]
theorem rA_p : pR rA = ([97], [98]) := by unfold pR rA; rw [show ((⟨#[97]⟩ : ByteArray).toList) = [97] from mkL [97], show ((⟨#[98]⟩ : ByteArray).toList) = [98] from mkL [98]]
theorem rC_p : pR rC = ([97], [99]) := by unfold pR rC; rw [show ((⟨#[97]⟩ : ByteArray).toList) = [97] from mkL [97], show ((⟨#[99]⟩ : ByteArray).toList) = [99] from mkL [99]]
theorem awake_law : ∃ k, hawserlaw06_awake.f k = some true := by
  have hn : NF ([rC].map pR) := by
    rw [List.map_cons, List.map_nil, rC_p]
    exact ⟨fun x hx => (by rw [List.mem_singleton.1 hx]; exact .inr (by decide)), List.pairwise_singleton _ _⟩
  have e : (mergeF [rB, rA]).map pR = [rC].map pR := unique _ _ (mergeF_nf _) hn (fun k => by
    rw [mergeF_has]
    simp only [List.map_cons, List.map_nil, rA_p, rB_p, rC_p, hasL_cons]
    have h0 : hasL [] k = false := rfl
    rw [h0, Bool.or_false, Bool.or_false]
    unfold has
    simp only
    have n1 : (([99] : T) == []) = false := rfl
    have n2 : (([98] : T) == []) = false := rfl
    rw [n1, n2]
    cases a1 : lt k [97] with
    | true =>
      have a2 := Texts.trans a1 (show lt [97] [98] = true by decide)
      rw [a2]; rfl
    | false =>
      cases a2 : lt k [98] with
      | true =>
        have a3 := Texts.trans a2 (show lt [98] [99] = true by decide)
        rw [a3]; rfl
      | false => simp)
  obtain ⟨k, hk⟩ := equal_rows _ _ e (by decide)
  refine ⟨k, ?_⟩
  unfold hawserlaw06_awake.f
  rw [show span_Normal.f [(⟨(⟨#[98]⟩ : ByteArray), (⟨#[99]⟩ : ByteArray)⟩ : S29), (⟨(⟨#[97]⟩ : ByteArray), (⟨#[98]⟩ : ByteArray)⟩ : S29)] = some (mergeF [rB, rA]) from by
    unfold span_Normal.f span_merged.f
    rw [if_pos (by decide)]
    rfl, Option.bind_some]
  rw [show ([(⟨(⟨#[97]⟩ : ByteArray), (⟨#[99]⟩ : ByteArray)⟩ : S29)] : List S29) = [rC] from rfl, hk]
  rfl
end
section
open Go.Proofs.Ytmjmjjhfficilaa.Texts
theorem nf_equal {l m : List S29} (h1 : NF (l.map pR)) (h2 : NF (m.map pR)) (h : ∀ k, hasL (l.map pR) k = hasL (m.map pR) k) (hm : m.length ≤ 1073741824) : ∃ k, hawserlaw06_equal.f k l m = some true :=
  equal_rows _ _ (unique _ _ h1 h2 h) hm
theorem nf_none {l : List S29} (h1 : NF (l.map pR)) (h : ∀ k, hasL (l.map pR) k = false) : l = [] := by
  have h2 : l.map pR = [] := unique _ _ h1 ⟨fun x hx => (by cases hx), List.Pairwise.nil⟩ h
  simpa using h2
theorem hasL_rev (l : List S29) (k : T) : hasL (l.reverse.map pR) k = hasL (l.map pR) k := hasL_perm (l.reverse_perm.map pR) k
end
/-- Everything that the law asks of the plain functions. -/
def LawsOk (a b na nb me mi tu bo r1 r2 r3 r4 r5 r6 r7 r8 r9 r10 : List S29) (cv : Bool) : Prop :=
  (∃ k, hawserlaw06_awake.f k = some true) ∧ span_Normal.f a = some na ∧ span_Normal.f b = some nb ∧ span_Meet.f a b = some me ∧ span_Minus.f a b = some mi ∧
  span_Normal.f na = some r1 ∧ (∃ k, hawserlaw06_equal.f k r1 na = some true) ∧ span_Normal.f tu = some r2 ∧ (∃ k, hawserlaw06_equal.f k r2 na = some true) ∧ span_Normal.f bo = some r3 ∧ (∃ k, hawserlaw06_equal.f k r3 na = some true) ∧
  span_Meet.f b a = some r4 ∧ (∃ k, hawserlaw06_equal.f k r4 me = some true) ∧ span_Meet.f na nb = some r5 ∧ (∃ k, hawserlaw06_equal.f k r5 me = some true) ∧ span_Minus.f na nb = some r6 ∧ (∃ k, hawserlaw06_equal.f k r6 mi = some true) ∧
  span_Minus.f a mi = some r7 ∧ (∃ k, hawserlaw06_equal.f k r7 me = some true) ∧ span_Meet.f me mi = some r8 ∧ r8.length = 0 ∧ span_Meet.f b mi = some r9 ∧ r9.length = 0 ∧
  span_Covers.f a b = some cv ∧ span_Minus.f b a = some r10 ∧ cv = ((r10.length : Int) == 0) ∧ span_Covers.f a mi = some true
section
open Go.Proofs.Ytmjmjjhfficilaa.Texts
theorem laws_law (a b tu bo : List S29) (ha : a.length ≤ 1048576) (hb : b.length ≤ 1048576) (htu : tu = a.reverse ++ a) (hbo : bo = meetF a b ++ minusF a b) :
    LawsOk a b (mergeF a) (mergeF b) (meetF a b) (minusF a b) tu bo (mergeF (mergeF a)) (mergeF tu) (mergeF bo) (meetF b a) (meetF (mergeF a) (mergeF b)) (minusF (mergeF a) (mergeF b)) (minusF a (minusF a b)) (meetF (meetF a b) (minusF a b)) (meetF b (minusF a b)) (minusF b a) (((minusF b a).length : Int) == 0) := by
  have la := mergeF_len a
  have lb := mergeF_len b
  have lm := meetF_len a b
  have ld := minusF_len a b
  have ltu : tu.length = 2 * a.length := by rw [htu]; simp; omega
  have lbo : bo.length ≤ 2 + 4 * a.length + 4 * b.length := by rw [hbo]; simp; omega
  have nor : ∀ l : List S29, l.length ≤ 4294967296 → span_Normal.f l = some (mergeF l) := fun l hl => by
    unfold span_Normal.f span_merged.f
    rw [if_pos hl]; rfl
  have mee : ∀ l m : List S29, l.length ≤ 67108864 → m.length ≤ 67108864 → span_Meet.f l m = some (meetF l m) := fun l m h1 h2 => by
    unfold span_Meet.f; rw [if_pos ⟨h1, h2⟩]
  have mis : ∀ l m : List S29, l.length ≤ 67108864 → m.length ≤ 67108864 → span_Minus.f l m = some (minusF l m) := fun l m h1 h2 => by
    unfold span_Minus.f; rw [if_pos ⟨h1, h2⟩]
  have M := fun l m => (meetF_ok l m).2
  have D := fun l m => (minusF_ok l m).2
  have N := mergeF_has
  refine ⟨awake_law, nor _ (by omega), nor _ (by omega), mee _ _ (by omega) (by omega), mis _ _ (by omega) (by omega), nor _ (by omega), ?_, nor _ (by omega), ?_, nor _ (by omega), ?_, mee _ _ (by omega) (by omega), ?_, mee _ _ (by omega) (by omega), ?_, mis _ _ (by omega) (by omega), ?_, mis _ _ (by omega) (by omega), ?_, mee _ _ (by omega) (by omega), ?_, mee _ _ (by omega) (by omega), ?_, ?_, mis _ _ (by omega) (by omega), rfl, ?_⟩
  · exact nf_equal (mergeF_nf _) (mergeF_nf _) (fun k => by rw [N]) (by omega)
  · exact nf_equal (mergeF_nf _) (mergeF_nf _) (fun k => by rw [N, N, htu, List.map_append, hasL_append, hasL_rev, Bool.or_self]) (by omega)
  · exact nf_equal (mergeF_nf _) (mergeF_nf _) (fun k => by rw [N, N, hbo, List.map_append, hasL_append, M, D]; cases hasL (a.map pR) k <;> cases hasL (b.map pR) k <;> rfl) (by omega)
  · exact nf_equal (meetF_ok _ _).1 (meetF_ok _ _).1 (fun k => by rw [M, M, Bool.and_comm]) (by omega)
  · exact nf_equal (meetF_ok _ _).1 (meetF_ok _ _).1 (fun k => by rw [M, M, N, N]) (by omega)
  · exact nf_equal (minusF_ok _ _).1 (minusF_ok _ _).1 (fun k => by rw [D, D, N, N]) (by omega)
  · exact nf_equal (minusF_ok _ _).1 (meetF_ok _ _).1 (fun k => by rw [D, D, M]; cases hasL (a.map pR) k <;> cases hasL (b.map pR) k <;> rfl) (by omega)
  · rw [nf_none (meetF_ok _ _).1 (fun k => by rw [M, M, D]; cases hasL (a.map pR) k <;> cases hasL (b.map pR) k <;> rfl)]; rfl
  · rw [nf_none (meetF_ok _ _).1 (fun k => by rw [M, D]; cases hasL (a.map pR) k <;> cases hasL (b.map pR) k <;> rfl)]; rfl
  · unfold span_Covers.f; rw [mis _ _ (by omega) (by omega)]; rfl
  · unfold span_Covers.f; rw [mis _ _ (by omega) (by omega), Option.bind_some, nf_none (minusF_ok (minusF a b) a).1 (fun k => by rw [D, D]; cases hasL (a.map pR) k <;> cases hasL (b.map pR) k <;> rfl)]; rfl
end
theorem bt {w w1 w2 : World} (h1 : Below w.heap.size w w1) (h2 : Below w1.heap.size w1 w2) : Below w.heap.size w w2 := h1.trans (h2.mono h1.size)
theorem drawn_below {w w' : World} (h : Drawn0 w w') : Below w.heap.size w w' := by
  obtain ⟨n, rfl⟩ := h
  exact pw_below_drewN (Below.refl _ _) n
/-- The first i places turned. -/
def revT (a : List S29) (i : Nat) : List S29 := a.reverse.take i ++ a.drop i
theorem revT_len (a : List S29) (i : Nat) (h : i ≤ a.length) : (revT a i).length = a.length := by unfold revT; simp; omega
theorem revT_zero (a : List S29) : revT a 0 = a := by simp [revT]
theorem revT_all (a : List S29) : revT a a.length = a.reverse := by
  unfold revT
  rw [List.drop_length, List.append_nil, List.take_of_length_le (by simp)]
theorem revT_succ (a : List S29) (i : Nat) (h : i < a.length) : (revT a i).set i (rd_T29 a ((a.length - 1 - i : Nat) : Int)) = revT a (i + 1) := by
  rw [rdR a (a.length - 1 - i) (by omega)]
  unfold revT
  have h1 : (a.reverse.take i).length = i := by simp; omega
  rw [List.set_append_right _ _ (by omega), h1, Nat.sub_self, List.drop_eq_getElem_cons h, List.set_cons_zero, List.take_succ_eq_append_getElem (by simpa using h), List.append_assoc, List.getElem_reverse]
  rfl
set_option maxRecDepth 100000 in
set_option maxHeartbeats 16000000 in
theorem laws_walk (w : World) (A B : Option Addr) (c d : Nat) (a b : List S29) (hra : Kd.C k29 w A a.length a) (hca : a.length ≤ c) (hrb : Kd.C k29 w B b.length b) (hcb : b.length ≤ d) (la : a.length ≤ 1048576) (lb : b.length ≤ 1048576) :
    Calls Try.prog 4 #[.slice A a.length c, .slice B b.length d] w fun e w' => e = .returned (.bool true) ∧ Below w.heap.size w w' := by
  obtain ⟨tu, htu⟩ : ∃ tu, RowKit.Hid (tu = a.reverse ++ a) := ⟨_, Lib.hid rfl⟩
  obtain ⟨bo, hbo0⟩ : ∃ bo, RowKit.Hid (bo = meetF a b ++ minusF a b) := ⟨_, Lib.hid rfl⟩
  have law := laws_law a b tu bo la lb htu.out hbo0.out
  have lm := meetF_len a b
  have ld := minusF_len a b
  obtain ⟨me, hme⟩ : ∃ me, RowKit.Hid (me = meetF a b) := ⟨_, Lib.hid rfl⟩
  obtain ⟨mi, hmi⟩ : ∃ mi, RowKit.Hid (mi = minusF a b) := ⟨_, Lib.hid rfl⟩
  rw [← hme.out] at law lm hbo0
  rw [← hmi.out] at law ld hbo0
  have hbo := hbo0
  generalize mergeF a = na at law
  generalize mergeF b = nb at law
  generalize mergeF na = r1 at law
  generalize mergeF tu = r2 at law
  generalize mergeF bo = r3 at law
  generalize meetF b a = r4 at law
  generalize meetF na nb = r5 at law
  generalize minusF na nb = r6 at law
  generalize minusF a mi = r7 at law
  generalize meetF me mi = r8 at law
  generalize meetF b mi = r9 at law
  generalize minusF b a = r10 at law
  obtain ⟨⟨k0, e0⟩, e1, e2, e3, e4, e5, ⟨k1, e6⟩, e7, ⟨k2, e8⟩, e9, ⟨k3, e10⟩, e11, ⟨k4, e12⟩, e13, ⟨k5, e14⟩, e15, ⟨k6, e16⟩, e17, ⟨k7, e18⟩, e19, z8, e20, z9, e21, e22, -, e23⟩ := law
  have aw := fun W => hawserlaw06_awake.calls k0 true W e0
  have nor := fun (l r : List S29) (h : span_Normal.f l = some r) W A c hC hc => span_Normal.calls A c l r W hC hc h
  have mee_ := fun (l m r : List S29) (h : span_Meet.f l m = some r) W A c hC hc A' c' hC' hc' => span_Meet.calls A c l A' c' m r W hC hc hC' hc' h
  have mis_ := fun (l m r : List S29) (h : span_Minus.f l m = some r) W A c hC hc A' c' hC' hc' => span_Minus.calls A c l A' c' m r W hC hc hC' hc' h
  have eql_ := fun (k : Nat) (l m : List S29) (h : hawserlaw06_equal.f k l m = some true) W A c hC hc A' c' hC' hc' => hawserlaw06_equal.calls k A c l A' c' m true W hC hc hC' hc' h
  have cov_ := fun (l m : List S29) (r : Bool) (h : span_Covers.f l m = some r) W A c hC hc A' c' hC' hc' => span_Covers.calls A c l A' c' m r W hC hc hC' hc' h
  have norA := nor _ _ e1
  have norB := nor _ _ e2
  have mee := mee_ _ _ _ e3
  have min_ := mis_ _ _ _ e4
  have n1 := nor _ _ e5
  have q1 := eql_ _ _ _ e6
  have n2 := nor _ _ e7
  have q2 := eql_ _ _ _ e8
  have n3 := nor _ _ e9
  have q3 := eql_ _ _ _ e10
  have m4 := mee_ _ _ _ e11
  have q4 := eql_ _ _ _ e12
  have m5 := mee_ _ _ _ e13
  have q5 := eql_ _ _ _ e14
  have m6 := mis_ _ _ _ e15
  have q6 := eql_ _ _ _ e16
  have m7 := mis_ _ _ _ e17
  have q7 := eql_ _ _ _ e18
  have m8 := mee_ _ _ _ e19
  have m9 := mee_ _ _ _ e20
  have cov1 := cov_ _ _ _ e21
  have m10 := mis_ _ _ _ e22
  have cov2 := cov_ _ _ _ e23
  obtain rfl := List.eq_nil_of_length_eq_zero z8
  obtain rfl := List.eq_nil_of_length_eq_zero z9
  have H := Lib.hid (And.intro hra hrb)
  have hc := Lib.hid hca
  have hd := Lib.hid hcb
  have LB := Lib.hid la
  have LM : RowKit.Hid (me.length ≤ 8388608) := Lib.hid (by omega)
  have LD : RowKit.Hid (mi.length ≤ 8388608) := Lib.hid (by omega)
  clear e0 e1 e2 e3 e4 e5 e6 e7 e8 e9 e10 e11 e12 e13 e14 e15 e16 e17 e18 e19 e20 e21 e22 e23 nor mee_ mis_ eql_ cov_ hra hrb hca hcb lm ld z8 z9 lb
  have n0 : (0 : Int) ≤ (a.length : Int) := by omega
  have n1' : (a.length : Int) ≤ 1048576 := by omega
  clear la
  go_enter Try.func4, Try.ntmps4
  go_upto_region 7 with (first
    | (go_at_call 5; (with_reducible refine (aw w).mono ?_); rintro e w1 ⟨rfl, hb1⟩; have b1 := Lib.hid hb1; clear hb1)
    | (go_at_call 6; (with_reducible refine (norA w1 A c (Kd.C_below H.out.1 b1.out) hc.out).mono ?_); rintro e w2 ⟨v2, rfl, hR2, hb2⟩; obtain ⟨A2, c2, rfl, hc2, hC2⟩ := Kd.R_reads hR2; have F2 := Lib.hid (And.intro hC2 (And.intro hc2 hR2)); clear hR2 hc2 hC2; have b2 := Lib.hid hb2; clear hb2)
    | (go_at_call 6; (with_reducible refine (norB w2 B d (Kd.C_below H.out.2 (bt b1.out b2.out)) hd.out).mono ?_); rintro e w3 ⟨v3, rfl, hR3, hb3⟩; obtain ⟨A3, c3, rfl, hc3, hC3⟩ := Kd.R_reads hR3; have F3 := Lib.hid (And.intro hC3 (And.intro hc3 hR3)); clear hR3 hc3 hC3; have b3 := Lib.hid hb3; clear hb3)
    | (go_at_call 7; (with_reducible refine (mee w3 A c (Kd.C_below H.out.1 (bt (bt b1.out b2.out) b3.out)) hc.out B d (Kd.C_below H.out.2 (bt (bt b1.out b2.out) b3.out)) hd.out).mono ?_); rintro e w4 ⟨v4, rfl, hR4, hb4⟩; obtain ⟨A4, c4, rfl, hc4, hC4⟩ := Kd.R_reads hR4; have F4 := Lib.hid (And.intro hC4 (And.intro hc4 hR4)); clear hR4 hc4 hC4; have b4 := Lib.hid hb4; clear hb4)
    | (go_at_call 8; (with_reducible refine (min_ w4 A c (Kd.C_below H.out.1 (bt (bt (bt b1.out b2.out) b3.out) b4.out)) hc.out B d (Kd.C_below H.out.2 (bt (bt (bt b1.out b2.out) b3.out) b4.out)) hd.out).mono ?_); rintro e w5 ⟨v5, rfl, hR5, hb5⟩; obtain ⟨A5, c5, rfl, hc5, hC5⟩ := Kd.R_reads hR5; have F5 := Lib.hid (And.intro hC5 (And.intro hc5 hR5)); clear hR5 hc5 hC5; have b5 := Lib.hid hb5; clear hb5)
    | (at_builtin; refine Kd.R_append_rows k29 (Rr := k29.K w5) (w0 := w5) w5.heap.size rfl (.const (.slice none 0 0)) (.tmp 27) 22 29 (.agg #[.string ⟨#[]⟩, .string ⟨#[]⟩]) 32 rfl Try.underlying22 infoR rfl (by decide) (by decide) (.slice none 0 0) [] a A a.length c (fun _ => True) (fun _ => False) rfl rfl (Kd.R_nil _ _ _ _ _) (Kd.C_below H.out.1 (bt (bt (bt (bt b1.out b2.out) b3.out) b4.out) b5.out)) (fun x cs h => by rw [k29_open h]; exact k29_mkM _ _ _ x) (fun _ h => h.elim) (fun _ _ => trivial) (Below.refl _ _) (Nat.le_refl _) (by have := LB.out; simp; omega) ?_; intro v6 w6 hR6 hb6 hg6 hat6; rw [List.nil_append] at hR6; obtain ⟨A6, c6, rfl, hc6, hC6⟩ := Kd.R_reads hR6; have F6 := Lib.hid (And.intro hC6 (And.intro hc6 hR6)); have b6 := Lib.hid hb6; clear hR6 hc6 hC6 hb6 hg6 hat6))
  have T0 : RowKit.Hid (Kd.R k29 29 w6 w5.heap.size (fun _ => True) (.slice A6 a.length c6) a) := Lib.hid F6.out.2.2
  have bw5 : RowKit.Hid (Below w.heap.size w w5) := Lib.hid (bt (bt (bt (bt b1.out b2.out) b3.out) b4.out) b5.out)
  have hcap6 := F6.out.2.1
  go_loopw [10] (fun iv wr => ∃ i : Nat, i ≤ a.length ∧ iv = .int .i64 i ∧ Kd.R k29 29 wr w5.heap.size (fun _ => True) (.slice A6 a.length c6) (revT a i) ∧ Below w5.heap.size w5 wr) (fun iv _ => a.length - (intOf iv).toNat)
  case atStart => exact ⟨0, by omega, rfl, by rw [revT_zero]; exact T0.out, b6.out⟩
  case round =>
    obtain ⟨i, hi, rfl, hR, hb⟩ := hrel
    by_cases hlt : i < a.length
    · have hln := revT_len a i hi
      obtain ⟨gt, ct, hv, hg, hct, hmax, hO⟩ := own_of_R hR (by rw [hln]; omega)
      rw [hln] at hv
      injection hv with hv1 hv2 hv3
      subst hv1
      subst hv3
      obtain ⟨qi, hqi⟩ : ∃ qi, RowKit.Hid (qi = a.length - 1 - i) := ⟨_, Lib.hid rfl⟩
      have hqe : (a.length : Int) - 1 - (i : Int) = (qi : Int) := by have := hqi.out; omega
      have l16 : (0 : Int) ≤ (qi : Int) := by omega
      have u16 : (qi : Int) < (a.length : Int) := by omega
      have l17 : (0 : Int) ≤ (i : Int) := by omega
      have u17 : (i : Int) < (a.length : Int) := by omega
      obtain ⟨ad, eA, x0, x1⟩ := at_T29 (Kd.C_below H.out.1 (bt bw5.out hb)) (qi : Int) l16 u16
      simp only [Int.toNat_natCast] at x0 x1
      have hsucc := revT_succ a i hlt
      rw [← hqi.out] at hsucc
      obtain ⟨r, hrr⟩ : ∃ r, RowKit.Hid (r = rd_T29 a (qi : Int)) := ⟨_, Lib.hid rfl⟩
      rw [← hrr.out] at x0 x1 hsucc
      obtain ⟨p0, p1⟩ := hO.cell (show i < (revT a i).length by rw [hln]; exact hlt)
      have z0 := hO.frozen (i * 2)
      have z1 := hO.frozen (i * 2 + 1)
      have ha : (⟨gt, 0, none⟩ : Addr).add (i * 2) = ⟨gt, i * 2, none⟩ := by rw [Addr.add_lit, Nat.zero_add]
      have hput := hO.put i (by rw [hln]; exact hlt) hct r
      rw [hsucc] at hput
      have Q := Lib.hid (And.intro hput (And.intro hg (And.intro (show (revT a (i + 1)).length ≤ c6 by rw [revT_len a (i + 1) (by omega), ← hln]; exact hct) (And.intro hmax hb))))
      have hln2 := Lib.hid (revT_len a (i + 1) (by omega))
      replace l16 := eq_true l16
      replace u16 := eq_true u16
      replace l17 := eq_true l17
      replace u17 := eq_true u17
      clear hput hg hct hmax hb hR hO hsucc hln hi
      obtain ⟨f0, f1⟩ := r
      simp only at x0 x1
      cases eA
      go_wp2
      refine ⟨⟨i + 1, by omega, by go_num, ?_, (Q.out.2.2.2.2.setCell Q.out.2.1 _).setCell Q.out.2.1 _⟩, by simp [intOf]; omega⟩
      have hRn := R_of_own Q.out.1 Q.out.2.1 Q.out.2.2.1 Q.out.2.2.2.1
      rw [hln2.out] at hRn
      exact hRn
    · obtain rfl : i = a.length := by omega
      rw [revT_all] at hR
      obtain ⟨ra, hra2⟩ : ∃ ra, RowKit.Hid (ra = a.reverse) := ⟨_, Lib.hid rfl⟩
      rw [← hra2.out] at hR
      have htu2 : RowKit.Hid (tu = ra ++ a) := Lib.hid (by rw [hra2.out]; exact htu.out)
      have LR : RowKit.Hid (ra.length ≤ 1048576) := Lib.hid (by rw [hra2.out, List.length_reverse]; exact LB.out)
      have tz := Lib.hid hR
      have bz := Lib.hid hb
      clear hR hb
      have hlt' : ¬ ((a.length : Int) < (a.length : Int)) := by omega
      go_wp2_with (first
        | (at_builtin; refine Kd.R_append_rows k29 (Rr := k29.K wr) (w0 := w5) w5.heap.size rfl (.tmp 46) (.tmp 47) 22 29 (.agg #[.string ⟨#[]⟩, .string ⟨#[]⟩]) 32 rfl Try.underlying22 infoR rfl (by decide) (by decide) (.slice A6 a.length c6) ra a A a.length c (fun _ => True) (fun _ => False) rfl rfl tz.out (Kd.C_below H.out.1 (bt (bt (bt (bt (bt b1.out b2.out) b3.out) b4.out) b5.out) bz.out)) (fun x cs h => by rw [k29_open h]; exact k29_mkM _ _ _ x) (fun _ h => h.elim) (fun _ _ => trivial) bz.out (Below.size bz.out) (by have := LB.out; have := LR.out; omega) ?_; intro v7 w7 hR7 hb7 hg7 hat7; rw [← htu2.out] at hR7; obtain ⟨A7, c7, rfl, hc7, hC7⟩ := Kd.R_reads hR7; have F7 := Lib.hid (And.intro hC7 (And.intro hc7 hR7)); have b7 := Lib.hid hb7; clear hR7 hc7 hC7 hb7 hg7 hat7)
        | (at_builtin; refine Kd.R_append_rows k29 (Rr := k29.K w7) (w0 := w7) w7.heap.size rfl (.const (.slice none 0 0)) (.tmp 49) 22 29 (.agg #[.string ⟨#[]⟩, .string ⟨#[]⟩]) 32 rfl Try.underlying22 infoR rfl (by decide) (by decide) (.slice none 0 0) [] me A4 me.length c4 (fun _ => True) (fun _ => False) rfl rfl (Kd.R_nil _ _ _ _ _) (Kd.C_below F4.out.1 (bt b5.out b7.out)) (fun x cs h => by rw [k29_open h]; exact k29_mkM _ _ _ x) (fun _ h => h.elim) (fun _ _ => trivial) (Below.refl _ _) (Nat.le_refl _) (by have := LM.out; simp; omega) ?_; intro v8 w8 hR8 hb8 hg8 hat8; rw [List.nil_append] at hR8; obtain ⟨A8, c8, rfl, hc8, hC8⟩ := Kd.R_reads hR8; have F8 := Lib.hid (And.intro hC8 (And.intro hc8 hR8)); have b8 := Lib.hid hb8; clear hR8 hc8 hC8 hb8 hg8 hat8)
        | (at_builtin; refine Kd.R_append_rows k29 (Rr := k29.K w8) (w0 := w7) w7.heap.size rfl (.tmp 50) (.tmp 51) 22 29 (.agg #[.string ⟨#[]⟩, .string ⟨#[]⟩]) 32 rfl Try.underlying22 infoR rfl (by decide) (by decide) (.slice A8 me.length c8) me mi A5 mi.length c5 (fun _ => True) (fun _ => False) rfl rfl F8.out.2.2 (Kd.C_below F5.out.1 (bt b7.out b8.out)) (fun x cs h => by rw [k29_open h]; exact k29_mkM _ _ _ x) (fun _ h => h.elim) (fun _ _ => trivial) b8.out (Below.size b8.out) (by have := LM.out; have := LD.out; omega) ?_; intro v9 w9 hR9 hb9 hg9 hat9; rw [← hbo.out] at hR9; obtain ⟨A9, c9, rfl, hc9, hC9⟩ := Kd.R_reads hR9; have F9 := Lib.hid (And.intro hC9 (And.intro hc9 hR9)); have b9 := Lib.hid hb9; clear hR9 hc9 hC9 hb9 hg9 hat9)
        | (go_at_call 6; (with_reducible refine (n1 w9 A2 c2 (Kd.C_below F2.out.1 (bt (bt (bt (bt b3.out b4.out) b5.out) b7.out) b9.out)) F2.out.2.1).mono ?_); rintro e w10 ⟨v10, rfl, hR10, hb10⟩; obtain ⟨A10, c10, rfl, hc10, hC10⟩ := Kd.R_reads hR10; have F10 := Lib.hid (And.intro hC10 (And.intro hc10 hR10)); clear hR10 hc10 hC10; have b10 := Lib.hid hb10; clear hb10)
        | (go_at_call 11; (with_reducible refine (q1 w10 A10 c10 F10.out.1 F10.out.2.1 A2 c2 (Kd.C_below F2.out.1 (bt (bt (bt (bt (bt b3.out b4.out) b5.out) b7.out) b9.out) b10.out)) F2.out.2.1).mono ?_); rintro e w11 ⟨rfl, hb11⟩; have b11 := Lib.hid hb11; clear hb11)
        | (go_at_call 6; (with_reducible refine (n2 w11 A7 c7 (Kd.C_below F7.out.1 (bt (bt b9.out b10.out) b11.out)) F7.out.2.1).mono ?_); rintro e w12 ⟨v12, rfl, hR12, hb12⟩; obtain ⟨A12, c12, rfl, hc12, hC12⟩ := Kd.R_reads hR12; have F12 := Lib.hid (And.intro hC12 (And.intro hc12 hR12)); clear hR12 hc12 hC12; have b12 := Lib.hid hb12; clear hb12)
        | (go_at_call 11; (with_reducible refine (q2 w12 A12 c12 F12.out.1 F12.out.2.1 A2 c2 (Kd.C_below F2.out.1 (bt (bt (bt (bt (bt (bt (bt b3.out b4.out) b5.out) b7.out) b9.out) b10.out) b11.out) b12.out)) F2.out.2.1).mono ?_); rintro e w13 ⟨rfl, hb13⟩; have b13 := Lib.hid hb13; clear hb13)
        | (go_at_call 6; (with_reducible refine (n3 w13 A9 c9 (Kd.C_below F9.out.1 (bt (bt (bt b10.out b11.out) b12.out) b13.out)) F9.out.2.1).mono ?_); rintro e w14 ⟨v14, rfl, hR14, hb14⟩; obtain ⟨A14, c14, rfl, hc14, hC14⟩ := Kd.R_reads hR14; have F14 := Lib.hid (And.intro hC14 (And.intro hc14 hR14)); clear hR14 hc14 hC14; have b14 := Lib.hid hb14; clear hb14)
        | (go_at_call 11; (with_reducible refine (q3 w14 A14 c14 F14.out.1 F14.out.2.1 A2 c2 (Kd.C_below F2.out.1 (bt (bt (bt (bt (bt (bt (bt (bt (bt b3.out b4.out) b5.out) b7.out) b9.out) b10.out) b11.out) b12.out) b13.out) b14.out)) F2.out.2.1).mono ?_); rintro e w15 ⟨rfl, hb15⟩; have b15 := Lib.hid hb15; clear hb15)
        | (go_at_call 7; (with_reducible refine (m4 w15 B d (Kd.C_below H.out.2 (bt (bt (bt (bt (bt (bt (bt (bt (bt (bt (bt (bt b1.out b2.out) b3.out) b4.out) b5.out) b7.out) b9.out) b10.out) b11.out) b12.out) b13.out) b14.out) b15.out)) hd.out A c (Kd.C_below H.out.1 (bt (bt (bt (bt (bt (bt (bt (bt (bt (bt (bt (bt b1.out b2.out) b3.out) b4.out) b5.out) b7.out) b9.out) b10.out) b11.out) b12.out) b13.out) b14.out) b15.out)) hc.out).mono ?_); rintro e w16 ⟨v16, rfl, hR16, hb16⟩; obtain ⟨A16, c16, rfl, hc16, hC16⟩ := Kd.R_reads hR16; have F16 := Lib.hid (And.intro hC16 (And.intro hc16 hR16)); clear hR16 hc16 hC16; have b16 := Lib.hid hb16; clear hb16)
        | (go_at_call 11; (with_reducible refine (q4 w16 A16 c16 F16.out.1 F16.out.2.1 A4 c4 (Kd.C_below F4.out.1 (bt (bt (bt (bt (bt (bt (bt (bt (bt b5.out b7.out) b9.out) b10.out) b11.out) b12.out) b13.out) b14.out) b15.out) b16.out)) F4.out.2.1).mono ?_); rintro e w17 ⟨rfl, hb17⟩; have b17 := Lib.hid hb17; clear hb17)
        | (go_at_call 7; (with_reducible refine (m5 w17 A2 c2 (Kd.C_below F2.out.1 (bt (bt (bt (bt (bt (bt (bt (bt (bt (bt (bt (bt b3.out b4.out) b5.out) b7.out) b9.out) b10.out) b11.out) b12.out) b13.out) b14.out) b15.out) b16.out) b17.out)) F2.out.2.1 A3 c3 (Kd.C_below F3.out.1 (bt (bt (bt (bt (bt (bt (bt (bt (bt (bt (bt b4.out b5.out) b7.out) b9.out) b10.out) b11.out) b12.out) b13.out) b14.out) b15.out) b16.out) b17.out)) F3.out.2.1).mono ?_); rintro e w18 ⟨v18, rfl, hR18, hb18⟩; obtain ⟨A18, c18, rfl, hc18, hC18⟩ := Kd.R_reads hR18; have F18 := Lib.hid (And.intro hC18 (And.intro hc18 hR18)); clear hR18 hc18 hC18; have b18 := Lib.hid hb18; clear hb18)
        | (go_at_call 11; (with_reducible refine (q5 w18 A18 c18 F18.out.1 F18.out.2.1 A4 c4 (Kd.C_below F4.out.1 (bt (bt (bt (bt (bt (bt (bt (bt (bt (bt (bt b5.out b7.out) b9.out) b10.out) b11.out) b12.out) b13.out) b14.out) b15.out) b16.out) b17.out) b18.out)) F4.out.2.1).mono ?_); rintro e w19 ⟨rfl, hb19⟩; have b19 := Lib.hid hb19; clear hb19)
        | (go_at_call 8; (with_reducible refine (m6 w19 A2 c2 (Kd.C_below F2.out.1 (bt (bt (bt (bt (bt (bt (bt (bt (bt (bt (bt (bt (bt (bt b3.out b4.out) b5.out) b7.out) b9.out) b10.out) b11.out) b12.out) b13.out) b14.out) b15.out) b16.out) b17.out) b18.out) b19.out)) F2.out.2.1 A3 c3 (Kd.C_below F3.out.1 (bt (bt (bt (bt (bt (bt (bt (bt (bt (bt (bt (bt (bt b4.out b5.out) b7.out) b9.out) b10.out) b11.out) b12.out) b13.out) b14.out) b15.out) b16.out) b17.out) b18.out) b19.out)) F3.out.2.1).mono ?_); rintro e w20 ⟨v20, rfl, hR20, hb20⟩; obtain ⟨A20, c20, rfl, hc20, hC20⟩ := Kd.R_reads hR20; have F20 := Lib.hid (And.intro hC20 (And.intro hc20 hR20)); clear hR20 hc20 hC20; have b20 := Lib.hid hb20; clear hb20)
        | (go_at_call 11; (with_reducible refine (q6 w20 A20 c20 F20.out.1 F20.out.2.1 A5 c5 (Kd.C_below F5.out.1 (bt (bt (bt (bt (bt (bt (bt (bt (bt (bt (bt (bt b7.out b9.out) b10.out) b11.out) b12.out) b13.out) b14.out) b15.out) b16.out) b17.out) b18.out) b19.out) b20.out)) F5.out.2.1).mono ?_); rintro e w21 ⟨rfl, hb21⟩; have b21 := Lib.hid hb21; clear hb21)
        | (go_at_call 8; (with_reducible refine (m7 w21 A c (Kd.C_below H.out.1 (bt (bt (bt (bt (bt (bt (bt (bt (bt (bt (bt (bt (bt (bt (bt (bt (bt (bt b1.out b2.out) b3.out) b4.out) b5.out) b7.out) b9.out) b10.out) b11.out) b12.out) b13.out) b14.out) b15.out) b16.out) b17.out) b18.out) b19.out) b20.out) b21.out)) hc.out A5 c5 (Kd.C_below F5.out.1 (bt (bt (bt (bt (bt (bt (bt (bt (bt (bt (bt (bt (bt b7.out b9.out) b10.out) b11.out) b12.out) b13.out) b14.out) b15.out) b16.out) b17.out) b18.out) b19.out) b20.out) b21.out)) F5.out.2.1).mono ?_); rintro e w22 ⟨v22, rfl, hR22, hb22⟩; obtain ⟨A22, c22, rfl, hc22, hC22⟩ := Kd.R_reads hR22; have F22 := Lib.hid (And.intro hC22 (And.intro hc22 hR22)); clear hR22 hc22 hC22; have b22 := Lib.hid hb22; clear hb22)
        | (go_at_call 11; (with_reducible refine (q7 w22 A22 c22 F22.out.1 F22.out.2.1 A4 c4 (Kd.C_below F4.out.1 (bt (bt (bt (bt (bt (bt (bt (bt (bt (bt (bt (bt (bt (bt (bt b5.out b7.out) b9.out) b10.out) b11.out) b12.out) b13.out) b14.out) b15.out) b16.out) b17.out) b18.out) b19.out) b20.out) b21.out) b22.out)) F4.out.2.1).mono ?_); rintro e w23 ⟨rfl, hb23⟩; have b23 := Lib.hid hb23; clear hb23)
        | (go_at_call 7; (with_reducible refine (m8 w23 A4 c4 (Kd.C_below F4.out.1 (bt (bt (bt (bt (bt (bt (bt (bt (bt (bt (bt (bt (bt (bt (bt (bt b5.out b7.out) b9.out) b10.out) b11.out) b12.out) b13.out) b14.out) b15.out) b16.out) b17.out) b18.out) b19.out) b20.out) b21.out) b22.out) b23.out)) F4.out.2.1 A5 c5 (Kd.C_below F5.out.1 (bt (bt (bt (bt (bt (bt (bt (bt (bt (bt (bt (bt (bt (bt (bt b7.out b9.out) b10.out) b11.out) b12.out) b13.out) b14.out) b15.out) b16.out) b17.out) b18.out) b19.out) b20.out) b21.out) b22.out) b23.out)) F5.out.2.1).mono ?_); rintro e w24 ⟨v24, rfl, hR24, hb24⟩; obtain ⟨A24, c24, rfl, hc24, hC24⟩ := Kd.R_reads hR24; have F24 := Lib.hid (And.intro hC24 (And.intro hc24 hR24)); clear hR24 hc24 hC24; have b24 := Lib.hid hb24; clear hb24)
        | (go_at_call 7; (with_reducible refine (m9 w24 B d (Kd.C_below H.out.2 (bt (bt (bt (bt (bt (bt (bt (bt (bt (bt (bt (bt (bt (bt (bt (bt (bt (bt (bt (bt (bt b1.out b2.out) b3.out) b4.out) b5.out) b7.out) b9.out) b10.out) b11.out) b12.out) b13.out) b14.out) b15.out) b16.out) b17.out) b18.out) b19.out) b20.out) b21.out) b22.out) b23.out) b24.out)) hd.out A5 c5 (Kd.C_below F5.out.1 (bt (bt (bt (bt (bt (bt (bt (bt (bt (bt (bt (bt (bt (bt (bt (bt b7.out b9.out) b10.out) b11.out) b12.out) b13.out) b14.out) b15.out) b16.out) b17.out) b18.out) b19.out) b20.out) b21.out) b22.out) b23.out) b24.out)) F5.out.2.1).mono ?_); rintro e w25 ⟨v25, rfl, hR25, hb25⟩; obtain ⟨A25, c25, rfl, hc25, hC25⟩ := Kd.R_reads hR25; have F25 := Lib.hid (And.intro hC25 (And.intro hc25 hR25)); clear hR25 hc25 hC25; have b25 := Lib.hid hb25; clear hb25)
        | (go_at_call 12; (with_reducible refine (cov1 w25 A c (Kd.C_below H.out.1 (bt (bt (bt (bt (bt (bt (bt (bt (bt (bt (bt (bt (bt (bt (bt (bt (bt (bt (bt (bt (bt (bt b1.out b2.out) b3.out) b4.out) b5.out) b7.out) b9.out) b10.out) b11.out) b12.out) b13.out) b14.out) b15.out) b16.out) b17.out) b18.out) b19.out) b20.out) b21.out) b22.out) b23.out) b24.out) b25.out)) hc.out B d (Kd.C_below H.out.2 (bt (bt (bt (bt (bt (bt (bt (bt (bt (bt (bt (bt (bt (bt (bt (bt (bt (bt (bt (bt (bt (bt b1.out b2.out) b3.out) b4.out) b5.out) b7.out) b9.out) b10.out) b11.out) b12.out) b13.out) b14.out) b15.out) b16.out) b17.out) b18.out) b19.out) b20.out) b21.out) b22.out) b23.out) b24.out) b25.out)) hd.out).mono ?_); rintro e w26 ⟨rfl, hb26⟩; have b26 := Lib.hid hb26; clear hb26)
        | (go_at_call 8; (with_reducible refine (m10 w26 B d (Kd.C_below H.out.2 (bt (bt (bt (bt (bt (bt (bt (bt (bt (bt (bt (bt (bt (bt (bt (bt (bt (bt (bt (bt (bt (bt (bt b1.out b2.out) b3.out) b4.out) b5.out) b7.out) b9.out) b10.out) b11.out) b12.out) b13.out) b14.out) b15.out) b16.out) b17.out) b18.out) b19.out) b20.out) b21.out) b22.out) b23.out) b24.out) b25.out) b26.out)) hd.out A c (Kd.C_below H.out.1 (bt (bt (bt (bt (bt (bt (bt (bt (bt (bt (bt (bt (bt (bt (bt (bt (bt (bt (bt (bt (bt (bt (bt b1.out b2.out) b3.out) b4.out) b5.out) b7.out) b9.out) b10.out) b11.out) b12.out) b13.out) b14.out) b15.out) b16.out) b17.out) b18.out) b19.out) b20.out) b21.out) b22.out) b23.out) b24.out) b25.out) b26.out)) hc.out).mono ?_); rintro e w27 ⟨v27, rfl, hR27, hb27⟩; obtain ⟨A27, c27, rfl, hc27, hC27⟩ := Kd.R_reads hR27; have F27 := Lib.hid (And.intro hC27 (And.intro hc27 hR27)); clear hR27 hc27 hC27; have b27 := Lib.hid hb27; clear hb27)
        | (go_at_call 12; (with_reducible refine (cov2 w27 A c (Kd.C_below H.out.1 (bt (bt (bt (bt (bt (bt (bt (bt (bt (bt (bt (bt (bt (bt (bt (bt (bt (bt (bt (bt (bt (bt (bt (bt b1.out b2.out) b3.out) b4.out) b5.out) b7.out) b9.out) b10.out) b11.out) b12.out) b13.out) b14.out) b15.out) b16.out) b17.out) b18.out) b19.out) b20.out) b21.out) b22.out) b23.out) b24.out) b25.out) b26.out) b27.out)) hc.out A5 c5 (Kd.C_below F5.out.1 (bt (bt (bt (bt (bt (bt (bt (bt (bt (bt (bt (bt (bt (bt (bt (bt (bt (bt (bt b7.out b9.out) b10.out) b11.out) b12.out) b13.out) b14.out) b15.out) b16.out) b17.out) b18.out) b19.out) b20.out) b21.out) b22.out) b23.out) b24.out) b25.out) b26.out) b27.out)) F5.out.2.1).mono ?_); rintro e w28 ⟨rfl, hb28⟩; have b28 := Lib.hid hb28; clear hb28))
      go_ret
      exact ⟨rfl, (bt (bt (bt (bt (bt (bt (bt (bt (bt (bt (bt (bt (bt (bt (bt (bt (bt (bt (bt (bt (bt (bt (bt (bt (bt b1.out b2.out) b3.out) b4.out) b5.out) b7.out) b9.out) b10.out) b11.out) b12.out) b13.out) b14.out) b15.out) b16.out) b17.out) b18.out) b19.out) b20.out) b21.out) b22.out) b23.out) b24.out) b25.out) b26.out) b27.out) b28.out)⟩
end Go.Proofs.Ytmjmjjhfficilaa.PSpanLaws
