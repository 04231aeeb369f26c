/- What is proved: contracts of functions that the law uses, each under the conditions that its theorem states. -/
import Derived.Test.YtmjmjjhfficilaaPSpanMembersx0
import Derived.Test.YtmjmjjhfficilaaPSpanMembersx1
import Derived.Test.YtmjmjjhfficilaaPSpanMembersx2
import Derived.Test.YtmjmjjhfficilaaPSpanMembersx3
import Derived.Test.YtmjmjjhfficilaaPSpanMembersx4
import Derived.Test.YtmjmjjhfficilaaPSpanMembersx5
namespace Go.Proofs.Ytmjmjjhfficilaa.PSpanMembers
open Go.RowKit Go.Proofs.YtmjmjjhfficilaaW.PrintWords Go.Proofs.YtmjmjjhfficilaaW.PrintLast Go.Proofs.YtmjmjjhfficilaaW.PrintMore
set_option linter.unusedVariables false
set_option linter.unusedSimpArgs false
/-! #### equal, awake -/
section
open Go.Proofs.Ytmjmjjhfficilaa.Texts
def pX (x : S52) : R := (x.f0.toList, x.f1.toList)
theorem rdX (l : List S52) (i : Nat) (h : i < l.length) : rd_T52 l (i : Int) = l[i] := by unfold rd_T52; simp [List.getD, List.getElem?_eq_getElem h]
theorem same_f (got : List S29) (wnt : List S52) (h : got.map pR = wnt.map pX) (hl : got.length ≤ 4294967296) : ∀ (m i k : Nat), i + m = got.length → 2 * m + 2 ≤ k → hawserlaw06_same.l0 k got wnt (i : Int) = some true := by
  have hlen : got.length = wnt.length := by have := congrArg List.length h; simpa using this
  intro m
  induction m with
  | zero =>
    intro i k hi hk
    obtain ⟨k, rfl⟩ : ∃ q, k = q + 2 := ⟨k - 2, by omega⟩
    rw [hawserlaw06_same.l0, if_neg (by omega), hawserlaw06_same.j1, if_neg (by decide), hlen]
    simp
  | succ m ih =>
    intro i k hi hk
    obtain ⟨k, rfl⟩ : ∃ q, k = q + 2 := ⟨k - 2, by omega⟩
    have hlt : i < got.length := by omega
    have hlt2 : i < wnt.length := by omega
    have e := congrArg (fun l => l[i]?) h
    simp only [List.getElem?_map, List.getElem?_eq_getElem hlt, List.getElem?_eq_getElem hlt2, Option.map_some] at e
    injection e with e
    have e0 : got[i].f0.toList = wnt[i].f0.toList := congrArg Prod.fst e
    have e1 : got[i].f1.toList = wnt[i].f1.toList := congrArg Prod.snd e
    rw [hawserlaw06_same.l0, if_pos (by omega), show decide ((i : Int) < (wnt.length : Int)) = true from decide_eq_true (by omega), hawserlaw06_same.j1, if_pos rfl, if_pos (by omega), if_pos (by omega), if_pos (by omega), rdR got i hlt, rdX wnt i hlt2, if_pos e0, if_pos e1, w_up i (by omega)]
    exact ih (i + 1) k (by omega) (by omega)
def conv (x : S29) : S52 := ⟨x.f0, x.f1⟩
theorem plain_l0 (l : List S29) (hl : l.length ≤ 1073741824) : ∀ (m i k : Nat), i + m = l.length → hawserlaw06_plain.l0 (m + 1 + k) l ((l.take i).map conv) (i : Int) = some (l.map conv) := by
  intro m
  induction m with
  | zero =>
    intro i k hi
    obtain rfl : i = l.length := by omega
    rw [show 0 + 1 + k = k + 1 by omega, hawserlaw06_plain.l0, if_neg (by omega), List.take_length]
  | succ m ih =>
    intro i k hi
    have hlt : i < l.length := by omega
    have h := ih (i + 1) k (by omega)
    rw [List.take_add_one, List.getElem?_eq_getElem hlt, List.map_append] at h
    rw [show m + 1 + 1 + k = (m + 1 + k) + 1 by omega, hawserlaw06_plain.l0, if_pos (by omega), if_pos (by omega), if_pos (by simp; omega), rdR l i hlt, w_up i (by omega)]
    exact h
theorem conv_p (l : List S29) : (l.map conv).map pX = l.map pR := by rw [List.map_map]; rfl

theorem equal_rows (l m : List S29) (e : l.map pR = m.map pR) (hm : m.length ≤ 1073741824) : ∃ k, hawserlaw06_equal.f k l m = some true := by
  have hl : l.length = m.length := by have := congrArg List.length e; simpa using this
  have h1 := plain_l0 m hm m.length 0 (m.length + 1) (by omega)
  have h2 := same_f l (m.map conv) (by rw [conv_p]; exact e) (by omega) l.length 0 (2 * l.length + 2) (by omega) (Nat.le_refl _)
  refine ⟨m.length + 1 + (m.length + 1), ?_⟩
  unfold hawserlaw06_equal.f hawserlaw06_plain.f hawserlaw06_same.f
  have h3 : hawserlaw06_plain.l0 (m.length + 1 + (m.length + 1)) m [] 0 = some (m.map conv) := h1
  rw [show 2 * l.length + 2 = m.length + 1 + (m.length + 1) by omega] at h2
  have h4 : hawserlaw06_same.l0 (m.length + 1 + (m.length + 1)) l (m.map conv) 0 = some true := h2
  rw [h3, Option.bind_some, h4, Option.bind_some]
theorem mkL (l : List UInt8) : (⟨l.toArray⟩ : ByteArray).toList = l := by rw [ByteArray.toList_eq]
theorem rB_p : pR rB = ([98], [99]) := by unfold pR rB; rw [show ((⟨#[98]⟩ : ByteArray).toList) = [98] from mkL [98], show ((⟨#[99]⟩ : ByteArray).toList) = [99] from mkL [99]]
theorem rA_p : pR rA = ([97], [98]) := by unfold pR rA; rw [show ((⟨#[97]⟩ : ByteArray).toList) = [97] from mkL [97], show ((⟨#[98]⟩ : ByteArray).toList) = [98] from mkL [98]]
theorem rC_p : pR rC = ([97], [99]) := by unfold pR rC; rw [show ((⟨#[97]⟩ : ByteArray).toList) = [97] from mkL [97], show ((⟨#[99]⟩ : ByteArray).toList) = [99] from mkL [99]]
theorem awake_law : ∃ k, hawserlaw06_awake.f k = some true := by
  have hn : NF ([rC].map pR) := by
    rw [List.map_cons, List.map_nil, rC_p]
    exact ⟨fun x hx => (by rw [List.mem_singleton.1 hx]; exact .inr (by decide)), List.pairwise_singleton _ _⟩
  have e : (mergeF [rB, rA]).map pR = [rC].map pR := unique _ _ (mergeF_nf _) hn (fun k => by
    rw [mergeF_has]
    simp only [List.map_cons, List.map_nil, rA_p, rB_p, rC_p, hasL_cons]
    have h0 : hasL [] k = false := rfl
    rw [h0, Bool.or_false, Bool.or_false]
    unfold has
    simp only
    have n1 : (([99] : T) == []) = false := rfl
    have n2 : (([98] : T) == []) = false := rfl
    rw [n1, n2]
    cases a1 : lt k [97] with
    | true =>
      have a2 := Texts.trans a1 (show lt [97] [98] = true by decide)
      rw [a2]; rfl
    | false =>
      cases a2 : lt k [98] with
      | true =>
        have a3 := Texts.trans a2 (show lt [98] [99] = true by decide)
        rw [a3]; rfl
      | false => simp)
  obtain ⟨k, hk⟩ := equal_rows _ _ e (by decide)
  refine ⟨k, ?_⟩
  unfold hawserlaw06_awake.f
  rw [show span_Normal.f [(⟨(⟨#[98]⟩ : ByteArray), (⟨#[99]⟩ : ByteArray)⟩ : S29), (⟨(⟨#[97]⟩ : ByteArray), (⟨#[98]⟩ : ByteArray)⟩ : S29)] = some (mergeF [rB, rA]) from by
    unfold span_Normal.f span_merged.f
    rw [if_pos (by decide)]
    rfl, Option.bind_some]
  rw [show ([(⟨(⟨#[97]⟩ : ByteArray), (⟨#[99]⟩ : ByteArray)⟩ : S29)] : List S29) = [rC] from rfl, hk]
  rfl
end
/-! #### has, normal -/
section
open Go.Proofs.Ytmjmjjhfficilaa.Texts
theorem has_l0 (l : List S29) (key : ByteArray) (hl : l.length ≤ 4294967295) : ∀ (m i k : Nat), i + m = l.length → hawserlaw06_has.l0 (m + 1 + k) l key (i : Int) = some (hasL ((l.drop i).map pR) key.toList) := by
  intro m
  induction m with
  | zero =>
    intro i k hi
    rw [show 0 + 1 + k = k + 1 by omega, hawserlaw06_has.l0, if_neg (by omega), List.drop_eq_nil_of_le (by omega)]
    rfl
  | succ m ih =>
    intro i k hi
    have hlt : i < l.length := by omega
    have h := ih (i + 1) k (by omega)
    rw [show m + 1 + 1 + k = (m + 1 + k) + 1 by omega, hawserlaw06_has.l0, if_pos (by omega), if_pos (by omega), rdR l i hlt, w_up i (by omega), List.drop_eq_getElem_cons hlt, List.map_cons, hasL_cons, h]
    show _ = some ((!lt key.toList l[i].f0.toList && (l[i].f1.toList == [] || lt key.toList l[i].f1.toList)) || _)
    cases a : Op.bytesLess key.toList l[i].f0.toList with
    | true => rw [if_pos rfl, show lt key.toList l[i].f0.toList = true from a]; rfl
    | false =>
      rw [if_neg (by decide), show lt key.toList l[i].f0.toList = false from a]
      by_cases b : l[i].f1.toList = []
      · rw [if_pos b, b]; rfl
      · rw [if_neg b, show (l[i].f1.toList == ([] : T)) = false from beq_eq_false_iff_ne.2 b]
        cases c : Op.bytesLess key.toList l[i].f1.toList with
        | true => rw [if_pos rfl, show lt key.toList l[i].f1.toList = true from c]; rfl
        | false => rw [if_neg (by decide), show lt key.toList l[i].f1.toList = false from c]; rfl
theorem has_f (l : List S29) (key : ByteArray) (hl : l.length ≤ 4294967295) : hawserlaw06_has.f (l.length + 1) l key = some (hasL (l.map pR) key.toList) := has_l0 l key hl l.length 0 0 (by omega)
theorem normal_l0 (l : List S29) (hl : l.length ≤ 4294967294) (hn : NF (l.map pR)) : ∀ (m i k : Nat), i + m = l.length → hawserlaw06_normal.l0 (2 * m + 1 + k) l (i : Int) = some true := by
  intro m
  induction m with
  | zero =>
    intro i k hi
    rw [show 2 * 0 + 1 + k = k + 1 by omega, hawserlaw06_normal.l0, if_neg (by omega)]
  | succ m ih =>
    intro i k hi
    have hlt : i < l.length := by omega
    have h := ih (i + 1) k (by omega)
    have hok := hn.1 (pR l[i]) (List.mem_map_of_mem (List.getElem_mem _))
    have hj : hawserlaw06_normal.j1 (2 * m + 1 + k + 1) l (i : Int) false = some true := by
      rw [hawserlaw06_normal.j1, if_neg (by decide), w_up i (by omega)]
      by_cases q : i + 1 < l.length
      · have hp := List.pairwise_iff_getElem.1 hn.2 i (i + 1) (by rw [List.length_map]; omega) (by rw [List.length_map]; exact q) (by omega)
        rw [List.getElem_map, List.getElem_map] at hp
        rw [if_pos (by omega), if_pos (by omega), if_pos (by omega), rdR l i hlt, if_neg (show ¬ l[i].f1.toList = [] from hp.1), if_pos (by omega), rdR l (i + 1) q, if_pos (show Op.bytesLess l[i].f1.toList l[i + 1].f0.toList = true from hp.2)]
        exact h
      · rw [if_neg (by omega)]
        exact h
    rw [show 2 * (m + 1) + 1 + k = (2 * m + 1 + k + 1) + 1 by omega, hawserlaw06_normal.l0, if_pos (by omega), if_pos (by omega), rdR l i hlt]
    by_cases q : l[i].f1.toList = []
    · rw [if_pos q]; exact hj
    · have hlt2 : Op.bytesLess l[i].f0.toList l[i].f1.toList = true := by
        rcases hok with h1 | h1
        · exact absurd h1 q
        · exact h1
      rw [if_neg q, hlt2]
      exact hj
theorem normal_f (l : List S29) (hl : l.length ≤ 4294967294) (hn : NF (l.map pR)) : hawserlaw06_normal.f (2 * l.length + 1) l = some true := normal_l0 l hl hn l.length 0 0 (by omega)
end
theorem bt {w w1 w2 : World} (h1 : Below w.heap.size w w1) (h2 : Below w1.heap.size w1 w2) : Below w.heap.size w w2 := h1.trans (h2.mono h1.size)
theorem drawn_below {w w' : World} (h : Drawn0 w w') : Below w.heap.size w w' := by
  obtain ⟨n, rfl⟩ := h
  exact pw_below_drewN (Below.refl _ _) n
theorem info9' : (Try.prog.info? 9).map (fun i => (i.zero, i.size, i.bytes)) = some (some (.string ⟨#[]⟩), 1, 16) := by kernel_rfl
def endsP (l : List S29) : List ByteArray := l.flatMap fun x => [x.f0, x.f1]
theorem endsP_succ (l : List S29) (i : Nat) (h : i < l.length) : endsP (l.take (i + 1)) = endsP (l.take i) ++ [(rd_T29 l (i : Int)).f0, (rd_T29 l (i : Int)).f1] := by
  have e : rd_T29 l (i : Int) = l[i] := by unfold rd_T29; simp [List.getD, List.getElem?_eq_getElem h]
  unfold endsP
  rw [e, List.take_succ_eq_append_getElem h, List.flatMap_append]
  simp
theorem endsP_len : ∀ l : List S29, (endsP l).length = 2 * l.length
  | [] => by simp [endsP]
  | x :: l => by
    have h := endsP_len l
    unfold endsP at h ⊢
    rw [List.flatMap_cons, List.length_append, List.length_cons, h]
    simp; omega
theorem has_app (a b : List S29) (k : List UInt8) : Texts.hasL ((a ++ b).map pR) k = (Texts.hasL (a.map pR) k || Texts.hasL (b.map pR) k) := by rw [List.map_append, Texts.hasL_append]
/-- Everything that the law asks of the plain functions. -/
def MembersOk (a b al n m d : List S29) : Prop :=
  (∃ k, hawserlaw06_awake.f k = some true) ∧ span_Normal.f al = some n ∧ span_Meet.f a b = some m ∧ span_Minus.f a b = some d ∧ (∃ k, hawserlaw06_normal.f k n = some true) ∧ (∃ k, hawserlaw06_normal.f k m = some true) ∧ (∃ k, hawserlaw06_normal.f k d = some true) ∧
  (∀ k, Texts.hasL (n.map pR) k = (Texts.hasL (a.map pR) k || Texts.hasL (b.map pR) k)) ∧ (∀ k, Texts.hasL (m.map pR) k = (Texts.hasL (a.map pR) k && Texts.hasL (b.map pR) k)) ∧ (∀ k, Texts.hasL (d.map pR) k = (Texts.hasL (a.map pR) k && !Texts.hasL (b.map pR) k)) ∧ n.length ≤ 67108864 ∧ m.length ≤ 67108864 ∧ d.length ≤ 67108864
theorem members_law (a b al : List S29) (ha : a.length ≤ 1048576) (hb : b.length ≤ 1048576) (hal : al = a ++ b) : MembersOk a b al (mergeF al) (meetF a b) (minusF a b) := by
  have ln := mergeF_len al
  have lal : al.length = a.length + b.length := by rw [hal, List.length_append]
  have lm := meetF_len a b
  have ld := minusF_len a b
  refine ⟨awake_law, ?_, ?_, ?_, ⟨_, normal_f _ (by omega) (mergeF_nf _)⟩, ⟨_, normal_f _ (by omega) (meetF_ok a b).1⟩, ⟨_, normal_f _ (by omega) (minusF_ok a b).1⟩, fun k => ?_, (meetF_ok a b).2, (minusF_ok a b).2, by omega, by omega, by omega⟩
  · unfold span_Normal.f span_merged.f
    rw [if_pos (by omega)]; rfl
  · unfold span_Meet.f; rw [if_pos ⟨by omega, by omega⟩]
  · unfold span_Minus.f; rw [if_pos ⟨by omega, by omega⟩]
  · rw [mergeF_has, hal, has_app]
set_option maxRecDepth 100000 in
set_option maxHeartbeats 16000000 in
theorem members_walk (w : World) (A B KA : Option Addr) (c d kc : Nat) (a b : List S29) (keys : List ByteArray) (hra : Kd.C k29 w A a.length a) (hca : a.length ≤ c) (hrb : Kd.C k29 w B b.length b) (hcb : b.length ≤ d) (hrk : Kd.C Kd.string w KA keys.length keys) (hck : keys.length ≤ kc) (la : a.length ≤ 1048576) (lb : b.length ≤ 1048576) (lk : keys.length ≤ 1048576) :
    Calls Try.prog 3 #[.slice A a.length c, .slice B b.length d, .slice KA keys.length kc] w fun e w' => e = .returned (.bool true) ∧ Below w.heap.size w w' := by
  obtain ⟨al, hal⟩ : ∃ al, RowKit.Hid (al = a ++ b) := ⟨_, Lib.hid rfl⟩
  have law := members_law a b al la lb hal.out
  generalize mergeF al = n at law
  generalize meetF a b = m at law
  generalize minusF a b = dd at law
  obtain ⟨⟨k0, e0⟩, e1, e2, e3, ⟨k4, e4⟩, ⟨k5, e5⟩, ⟨k6, e6⟩, h1, h2, h3, ln, lm, ld⟩ := law
  have aw := fun W => hawserlaw06_awake.calls k0 true W e0
  have nor := fun W A c hC hc => span_Normal.calls A c al n W hC hc e1
  have mee := fun W A c hC hc A' c' hC' hc' => span_Meet.calls A c a A' c' b m W hC hc hC' hc' e2
  have min_ := fun W A c hC hc A' c' hC' hc' => span_Minus.calls A c a A' c' b dd W hC hc hC' hc' e3
  have nn := fun W A c hC hc => (hawserlaw06_normal.calls k4 A c n true W hC hc e4).mono (fun _ _ (h : _ ∧ _) => And.intro h.1 (drawn_below h.2))
  have nm := fun W A c hC hc => (hawserlaw06_normal.calls k5 A c m true W hC hc e5).mono (fun _ _ (h : _ ∧ _) => And.intro h.1 (drawn_below h.2))
  have nd := fun W A c hC hc => (hawserlaw06_normal.calls k6 A c dd true W hC hc e6).mono (fun _ _ (h : _ ∧ _) => And.intro h.1 (drawn_below h.2))
  have H := Lib.hid (And.intro hra (And.intro hrb hrk))
  have hc := Lib.hid hca
  have hd := Lib.hid hcb
  have hkc := Lib.hid hck
  have LA := Lib.hid la
  have LB := Lib.hid lb
  have LK := Lib.hid lk
  have LAL : RowKit.Hid (al.length ≤ 2097152) := Lib.hid (by rw [hal.out, List.length_append]; omega)
  have LN := Lib.hid (And.intro ln (And.intro lm ld))
  have H3 := Lib.hid (And.intro h1 (And.intro h2 h3))
  clear e0 e1 e2 e3 e4 e5 e6 hra hrb hrk hca hcb hck la lb lk ln lm ld h1 h2 h3
  go_enter Try.func3, Try.ntmps3
  go_upto_region 9 with (first
    | (go_at_call 5; (with_reducible refine (aw w).mono ?_); rintro e w1 ⟨rfl, hb1⟩; have b1 := Lib.hid hb1; clear hb1)
    | (at_builtin; refine Kd.R_append_rows k29 (Rr := k29.K w1) (w0 := w1) w1.heap.size rfl (.const (.slice none 0 0)) (.tmp 18) 22 29 (.agg #[.string ⟨#[]⟩, .string ⟨#[]⟩]) 32 rfl Try.underlying22 infoR rfl (by decide) (by decide) (.slice none 0 0) [] a A a.length c (fun _ => True) (fun _ => False) rfl rfl (Kd.R_nil _ _ _ _ _) (Kd.C_below H.out.1 b1.out) (fun x cs h => by rw [k29_open h]; exact k29_mkM _ _ _ x) (fun _ h => h.elim) (fun _ _ => trivial) (Below.refl _ _) (Nat.le_refl _) (by have := LA.out; simp; omega) ?_; intro v2 w2 hR2 hb2 hg2 hat2; rw [List.nil_append] at hR2; obtain ⟨A2, c2, rfl, hc2, hC2⟩ := Kd.R_reads hR2; have F2 := Lib.hid (And.intro hC2 (And.intro hc2 hR2)); have b2 := Lib.hid hb2; clear hR2 hc2 hC2 hb2 hg2 hat2)
    | (at_builtin; refine Kd.R_append_rows k29 (Rr := k29.K w2) (w0 := w1) w1.heap.size rfl (.tmp 19) (.tmp 20) 22 29 (.agg #[.string ⟨#[]⟩, .string ⟨#[]⟩]) 32 rfl Try.underlying22 infoR rfl (by decide) (by decide) (.slice A2 a.length c2) a b B b.length d (fun _ => True) (fun _ => False) rfl rfl F2.out.2.2 (Kd.C_below H.out.2.1 (bt b1.out b2.out)) (fun x cs h => by rw [k29_open h]; exact k29_mkM _ _ _ x) (fun _ h => h.elim) (fun _ _ => trivial) b2.out (Below.size b2.out) (by have := LA.out; have := LB.out; omega) ?_; intro v3 w3 hR3 hb3 hg3 hat3; rw [← hal.out] at hR3; obtain ⟨A3, c3, rfl, hc3, hC3⟩ := Kd.R_reads hR3; have F3 := Lib.hid (And.intro hC3 (And.intro hc3 hR3)); have b3 := Lib.hid hb3; clear hR3 hc3 hC3 hb3 hg3 hat3)
    | (go_at_call 6; (with_reducible refine (nor w3 A3 c3 F3.out.1 F3.out.2.1).mono ?_); rintro e w4 ⟨v4, rfl, hR4, hb4⟩; obtain ⟨A4, c4, rfl, hc4, hC4⟩ := Kd.R_reads hR4; have F4 := Lib.hid (And.intro hC4 (And.intro hc4 hR4)); clear hR4 hc4 hC4; have b4 := Lib.hid hb4; clear hb4)
    | (go_at_call 7; (with_reducible refine (mee w4 A c (Kd.C_below H.out.1 (bt (bt b1.out b3.out) b4.out)) hc.out B d (Kd.C_below H.out.2.1 (bt (bt b1.out b3.out) b4.out)) hd.out).mono ?_); rintro e w5 ⟨v5, rfl, hR5, hb5⟩; obtain ⟨A5, c5, rfl, hc5, hC5⟩ := Kd.R_reads hR5; have F5 := Lib.hid (And.intro hC5 (And.intro hc5 hR5)); clear hR5 hc5 hC5; have b5 := Lib.hid hb5; clear hb5)
    | (go_at_call 8; (with_reducible refine (min_ w5 A c (Kd.C_below H.out.1 (bt (bt (bt b1.out b3.out) b4.out) b5.out)) hc.out B d (Kd.C_below H.out.2.1 (bt (bt (bt b1.out b3.out) b4.out) b5.out)) hd.out).mono ?_); rintro e w6 ⟨v6, rfl, hR6, hb6⟩; obtain ⟨A6, c6, rfl, hc6, hC6⟩ := Kd.R_reads hR6; have F6 := Lib.hid (And.intro hC6 (And.intro hc6 hR6)); clear hR6 hc6 hC6; have b6 := Lib.hid hb6; clear hb6)
    | (go_at_call 9; (with_reducible refine (nn w6 A4 c4 (Kd.C_below F4.out.1 (bt b5.out b6.out)) F4.out.2.1).mono ?_); rintro e w7 ⟨rfl, hb7⟩; have b7 := Lib.hid hb7; clear hb7)
    | (go_at_call 9; (with_reducible refine (nm w7 A5 c5 (Kd.C_below F5.out.1 (bt b6.out b7.out)) F5.out.2.1).mono ?_); rintro e w8 ⟨rfl, hb8⟩; have b8 := Lib.hid hb8; clear hb8)
    | (go_at_call 9; (with_reducible refine (nd w8 A6 c6 (Kd.C_below F6.out.1 (bt b7.out b8.out)) F6.out.2.1).mono ?_); rintro e w9 ⟨rfl, hb9⟩; have b9 := Lib.hid hb9; clear hb9)
    | (at_builtin; refine Kd.R_append_rows Kd.string (Rr := Kd.string.K w9) (w0 := w9) w9.heap.size rfl (.const (.slice none 0 0)) (.tmp 43) 23 9 (.string ⟨#[]⟩) 16 rfl Try.underlying23 infoS9 rfl (by decide) (by decide) (.slice none 0 0) [] keys KA keys.length kc (fun _ => True) (fun _ => False) rfl rfl (Kd.R_nil _ _ _ _ _) (Kd.C_below H.out.2.2 (bt (bt (bt (bt (bt (bt (bt b1.out b3.out) b4.out) b5.out) b6.out) b7.out) b8.out) b9.out)) (fun x cs h => h) (fun _ h => h.elim) (fun _ _ => trivial) (Below.refl _ _) (Nat.le_refl _) (by have := LK.out; simp; omega) ?_; intro v10 w10 hR10 hb10 hg10 hat10; rw [List.nil_append] at hR10; have F10 := Lib.hid hR10; have b10 := Lib.hid hb10; clear hR10 hb10 hg10 hat10))
  have CAL : RowKit.Hid (Kd.C k29 w9 A3 al.length al) := Lib.hid (Kd.C_below F3.out.1 (bt (bt (bt (bt (bt b4.out b5.out) b6.out) b7.out) b8.out) b9.out))
  have CN : RowKit.Hid (Kd.C k29 w9 A4 n.length n) := Lib.hid (Kd.C_below F4.out.1 (bt (bt (bt (bt b5.out b6.out) b7.out) b8.out) b9.out))
  have CM : RowKit.Hid (Kd.C k29 w9 A5 m.length m) := Lib.hid (Kd.C_below F5.out.1 (bt (bt (bt b6.out b7.out) b8.out) b9.out))
  have CD : RowKit.Hid (Kd.C k29 w9 A6 dd.length dd) := Lib.hid (Kd.C_below F6.out.1 (bt (bt b7.out b8.out) b9.out))
  have CA : RowKit.Hid (Kd.C k29 w9 A a.length a) := Lib.hid (Kd.C_below H.out.1 (bt (bt (bt (bt (bt (bt (bt b1.out b3.out) b4.out) b5.out) b6.out) b7.out) b8.out) b9.out))
  have CB : RowKit.Hid (Kd.C k29 w9 B b.length b) := Lib.hid (Kd.C_below H.out.2.1 (bt (bt (bt (bt (bt (bt (bt b1.out b3.out) b4.out) b5.out) b6.out) b7.out) b8.out) b9.out))
  have B09 : RowKit.Hid (Below w.heap.size w w9) := Lib.hid (bt (bt (bt (bt (bt (bt (bt b1.out b3.out) b4.out) b5.out) b6.out) b7.out) b8.out) b9.out)
  go_loopw [11, 12] (fun mv iv wr => ∃ i : Nat, i ≤ al.length ∧ iv = .int .i64 i ∧ Kd.R Kd.string 9 wr w9.heap.size (fun _ => True) mv (keys ++ endsP (al.take i)) ∧ Below w9.heap.size w9 wr) (fun _ iv _ => al.length - (intOf iv).toNat)
  case atStart => exact ⟨0, by omega, rfl, by simpa [endsP] using F10.out, b10.out⟩
  case round =>
    obtain ⟨i, hi, rfl, hR, hb⟩ := hrel
    have hsz := hb.size
    by_cases hlt : i < al.length
    · have l16 : (0 : Int) ≤ (i : Int) := by omega
      have u16 : (i : Int) < (al.length : Int) := by omega
      obtain ⟨ad, eA, y0, y1⟩ := at_T29 (Kd.C_below CAL.out hb) (i : Int) l16 u16
      obtain ⟨ad', eA', z0, z1⟩ := at_T29 CAL.out (i : Int) l16 u16
      simp only [Int.toNat_natCast] at y0 y1 z0 z1
      have xl9 := World.block_lt_of_cell? w9 _ z0
      have xl : (ad.add (i * 2)).block < wr.heap.size := World.block_lt_of_cell? wr _ y0
      have hsucc := endsP_succ al i hlt
      obtain ⟨r, hrr⟩ : ∃ r, RowKit.Hid (r = rd_T29 al (i : Int)) := ⟨_, Lib.hid rfl⟩
      rw [← hrr.out] at y0 y1 hsucc
      obtain ⟨out, hout⟩ : ∃ out, RowKit.Hid (out = keys ++ endsP (al.take i)) := ⟨_, Lib.hid rfl⟩
      rw [← hout.out] at hR
      have hnext : RowKit.Hid (keys ++ endsP (al.take (i + 1)) = out ++ [r.f0, r.f1]) := Lib.hid (by rw [hsucc, hout.out, List.append_assoc])
      have L5 : RowKit.Hid ((out.length + 2) * 16 ≤ 140737488355328) := Lib.hid (by
        have h := endsP_len (al.take i)
        rw [List.length_take] at h
        rw [hout.out, List.length_append, h]
        have := LK.out; have := LAL.out; omega)
      obtain ⟨Am, cm, rfl, hcm, hCm⟩ := Kd.R_reads hR
      cases eA
      cases eA'
      have bd : Below wr.heap.size wr wr.drew := (Below.refl _ _).drew
      have RD : RowKit.Hid (Kd.R Kd.string 9 wr.drew w9.heap.size (fun _ => True) (.slice Am out.length cm) out ∧ Below w9.heap.size w9 wr.drew ∧ w9.heap.size ≤ wr.drew.heap.size) := Lib.hid ⟨Kd.R_below hR bd, hb.drew, hsz⟩
      obtain ⟨f0, f1⟩ := r
      rw [← hrr.out] at z0 z1
      simp only at y0 y1 z0 z1
      have s0 : wr.drew.cell? (ad.add (i * 2)) = some (.string f0) := y0
      have s1 : wr.drew.cell? ⟨(ad.add (i * 2)).block, (ad.add (i * 2)).off + 1, none⟩ = some (.string f1) := y1
      replace xl : (ad.add (i * 2)).block < wr.drew.heap.size := xl
      have XB : ∀ W, Below w9.heap.size w9 W → W.cell? (ad.add (i * 2)) = some (.string f0) ∧ W.cell? ⟨(ad.add (i * 2)).block, (ad.add (i * 2)).off + 1, none⟩ = some (.string f1) := fun W hW => ⟨(hW.cell (p := ad.add (i * 2)) xl9).trans z0, (hW.cell (p := ⟨(ad.add (i * 2)).block, (ad.add (i * 2)).off + 1, none⟩) xl9).trans z1⟩
      have XB := Lib.hid XB
      have hw1 : IntKind.i64.wrap ((i : Int) + 1) = ((i + 1 : Nat) : Int) := by rw [IntWalk.i64_in _ (by have := LAL.out; omega)]; omega
      have hw2 : wrap64 ((i : Int) + 1) = ((i + 1 : Nat) : Int) := by rw [IntWalk.wrap64_in _ (by have := LAL.out; omega)]; omega
      replace l16 := eq_true l16
      replace u16 := eq_true u16
      clear hR hb hsz hcm hCm y0 y1 z0 z1 xl9 bd hsucc
      go_upto_region 11 with (fail)
      refine start_ (n := 14) (S := fun w' => w'.cell? (ad.add (i * 2)) = some (.string f0) ∧ w'.cell? ⟨(ad.add (i * 2)).block, (ad.add (i * 2)).off + 1, none⟩ = some (.string f1)) (ds := []) #[false, false, false, false, false, false, false, false, false, false, false, false, false, false] (by kernel_rfl) rfl rfl ⟨s0, s1⟩ (fun hHeld => ?_)
      generalize wr.drew = wd at RD s0 s1 xl hHeld ⊢
      refine pure_ (i := 0) (N := (some 51)) (v := ?_) (a' := ?_) #[true, false, false, false, false, false, false, false, false, false, false, false, false, false] rfl rfl (by kernel_rfl) (fun _ _ _ h => h) (Or.inl ⟨by rfl, ?_⟩) ?_ ?_
      rotate_left
      · intro w'
        go_simp
        with_reducible rfl
      rotate_left
      · simp only [Act.put, List.setIfInBounds_toArray, List.set_cons_zero, List.set_cons_succ, i64_w, i32_w]
        rfl
      refine pure_ (i := 1) (N := (some 52)) (v := ?_) (a' := ?_) #[true, true, false, false, false, false, false, false, false, false, false, false, false, false] rfl rfl (by kernel_rfl) (fun _ _ _ h => h) (Or.inl ⟨by rfl, ?_⟩) ?_ ?_
      rotate_left
      · intro w'
        go_simp
        with_reducible rfl
      rotate_left
      · simp only [Act.put, List.setIfInBounds_toArray, List.set_cons_zero, List.set_cons_succ, i64_w, i32_w]
        rfl
      refine pure_ (i := 2) (N := (some 53)) (v := ?_) (a' := ?_) #[true, true, true, false, false, false, false, false, false, false, false, false, false, false] rfl rfl (by kernel_rfl) (fun _ _ _ h => h) (Or.inl ⟨by rfl, ?_⟩) ?_ ?_
      rotate_left
      · intro w'
        go_simp
        with_reducible rfl
      rotate_left
      · simp only [Act.put, List.setIfInBounds_toArray, List.set_cons_zero, List.set_cons_succ, i64_w, i32_w]
        rfl
      refine pure_ (i := 3) (N := (some 54)) (v := ?_) (a' := ?_) #[true, true, true, true, false, false, false, false, false, false, false, false, false, false] rfl rfl (by kernel_rfl) (fun _ _ _ h => h) (Or.inl ⟨by rfl, ?_⟩) ?_ ?_
      rotate_left
      · intro w'
        go_simp
        with_reducible rfl
      rotate_left
      · simp only [Act.put, List.setIfInBounds_toArray, List.set_cons_zero, List.set_cons_succ, i64_w, i32_w]
        rfl
      refine pure_ (i := 4) (N := (some 55)) (v := ?_) (a' := ?_) #[true, true, true, true, true, false, false, false, false, false, false, false, false, false] rfl rfl (by kernel_rfl) (fun _ _ _ h => h) (Or.inl ⟨by rfl, ?_⟩) ?_ ?_
      rotate_left
      · intro w'
        go_simp
        with_reducible rfl
      rotate_left
      · simp only [Act.put, List.setIfInBounds_toArray, List.set_cons_zero, List.set_cons_succ, i64_w, i32_w]
        rfl
      refine pure_ (i := 6) (N := (some 57)) (v := ?_) (a' := ?_) #[true, true, true, true, true, false, true, false, false, false, false, false, false, false] rfl rfl (by kernel_rfl) (fun _ _ _ h => h) (Or.inl ⟨by rfl, ?_⟩) ?_ ?_
      rotate_left
      · intro w'
        go_simp
        with_reducible rfl
      rotate_left
      · simp only [Act.put, List.setIfInBounds_toArray, List.set_cons_zero, List.set_cons_succ, i64_w, i32_w]
        rfl
      refine pure_ (i := 7) (N := (some 58)) (v := ?_) (a' := ?_) #[true, true, true, true, true, false, true, true, false, false, false, false, false, false] rfl rfl (by kernel_rfl) (fun _ _ _ h => h) (Or.inl ⟨by rfl, ?_⟩) ?_ ?_
      rotate_left
      · intro w'
        go_simp
        with_reducible rfl
      rotate_left
      · simp only [Act.put, List.setIfInBounds_toArray, List.set_cons_zero, List.set_cons_succ, i64_w, i32_w]
        rfl
      refine pure_ (i := 8) (N := (some 59)) (v := ?_) (a' := ?_) #[true, true, true, true, true, false, true, true, true, false, false, false, false, false] rfl rfl (by kernel_rfl) (fun _ _ _ h => h) (Or.inl ⟨by rfl, ?_⟩) ?_ ?_
      rotate_left
      · intro w'
        go_simp
        with_reducible rfl
      rotate_left
      · simp only [Act.put, List.setIfInBounds_toArray, List.set_cons_zero, List.set_cons_succ, i64_w, i32_w]
        rfl
      refine pure_ (i := 9) (N := (some 60)) (v := ?_) (a' := ?_) #[true, true, true, true, true, false, true, true, true, true, false, false, false, false] rfl rfl (by kernel_rfl) (fun _ _ _ h => h) (Or.inl ⟨by rfl, ?_⟩) ?_ ?_
      rotate_left
      · intro w'
        go_simp
        with_reducible rfl
      rotate_left
      · simp only [Act.put, List.setIfInBounds_toArray, List.set_cons_zero, List.set_cons_succ, i64_w, i32_w]
        rfl
      refine take_ (i := 5) (N := (some 56)) (v := ?_) (a' := ?_) #[true, true, true, true, true, true, true, true, true, true, false, false, false, false] rfl rfl (by kernel_rfl) (fun _ _ _ h => h) (Or.inl ⟨by rfl, ?_⟩) hHeld ?_ ?_
      rotate_left
      · rintro w' ⟨q0, q1⟩
        go_simp
        with_reducible rfl
      rotate_left
      · simp only [Act.put, List.setIfInBounds_toArray, List.set_cons_zero, List.set_cons_succ, i64_w, i32_w]
        rfl
      refine take_ (i := 10) (N := (some 61)) (v := ?_) (a' := ?_) #[true, true, true, true, true, true, true, true, true, true, true, false, false, false] rfl rfl (by kernel_rfl) (fun _ _ _ h => h) (Or.inl ⟨by rfl, ?_⟩) hHeld ?_ ?_
      rotate_left
      · rintro w' ⟨q0, q1⟩
        go_simp
        with_reducible rfl
      rotate_left
      · simp only [Act.put, List.setIfInBounds_toArray, List.set_cons_zero, List.set_cons_succ, i64_w, i32_w]
        rfl
      refine one_ (i := 11) (N := (some 62)) #[true, true, true, true, true, true, true, true, true, true, true, true, false, false] rfl rfl (by kernel_rfl) (by decide) (fun K hK => ?_)
      refine Kd.R_lit_step Kd.string _ 9 ?hg (N := 62) ?hd (xs := ([f0, f1] : List ByteArray)) (inner := [.string f0, .string f1]) (ok := fun _ => True) (okp := fun _ => True) ?hr ?hp (fun _ hk => hk) trivial (Below.refl _ _) (Nat.le_refl _) (by simp) ?_
      case hd => rfl
      case hg => rfl
      case hr => first | (go_simp; done) | (go_simp; rfl)
      case hp => exact (Reps.one (show Kd.M Kd.string _ _ _ f0 [.string f0] from rfl) (Reps.one (show Kd.M Kd.string _ _ _ f1 [.string f1] from rfl) (Reps.none _ _)))
      intro v62 w11 ho62 hb62 hg_ hnew_
      clear hg_ hnew_
      obtain ⟨A62, c62, rfl, hc62, hC62⟩ := Kd.R_reads ho62
      have G62 := Lib.hid (And.intro hC62 hb62)
      clear ho62 hb62 hc62 hC62
      replace s0 := (G62.out.2.cell (p := ad.add (i * 2)) xl).trans s0
      replace s1 := (G62.out.2.cell (p := ⟨(ad.add (i * 2)).block, (ad.add (i * 2)).off + 1, none⟩) xl).trans s1
      refine hK.out _ _ ⟨s0, s1⟩ (fun hHeld => ?_)
      clear hK K
      refine norm_ (a' := ?_) ?_ ?_
      rotate_left
      · show Act.put _ (some 62) _ = _
        simp only [Act.put, List.setIfInBounds_toArray, List.set_cons_zero, List.set_cons_succ, i64_w, i32_w]
        rfl
      refine one_ (i := 12) (N := (some 63)) #[true, true, true, true, true, true, true, true, true, true, true, true, true, false] rfl rfl (by kernel_rfl) (by decide) (fun K hK => ?_)
      refine Kd.R_append_rows_step Kd.string (w0 := w9) w9.heap.size (by rfl) (.tmp 51) (.tmp 62) 23 9 (.string ⟨#[]⟩) 16 rfl Try.underlying23 infoS9 rfl (by decide) (by decide) (.slice Am out.length cm) out [f0, f1] A62 2 c62 (fun _ => True) (fun _ => False) rfl rfl (Kd.R_below RD.out.1 G62.out.2) G62.out.1 (fun _ _ h => h) (fun _ h => h.elim) (fun _ _ => trivial) (RD.out.2.1.trans (G62.out.2.mono RD.out.2.2)) (Nat.le_trans RD.out.2.2 G62.out.2.size) L5.out ?_
      intro v63 w12 ho63 hb63 hg63 hat63
      have G63 := Lib.hid (And.intro ho63 hb63)
      replace s0 := (XB.out _ hb63).1
      replace s1 := (XB.out _ hb63).2
      clear ho63 hb63 hg63 hat63
      refine hK.out _ _ ⟨s0, s1⟩ (fun hHeld => ?_)
      clear hK K
      refine norm_ (a' := ?_) ?_ ?_
      rotate_left
      · show Act.put _ (some 63) _ = _
        simp only [Act.put, List.setIfInBounds_toArray, List.set_cons_zero, List.set_cons_succ, i64_w, i32_w]
        rfl
      refine pure_ (i := 13) (N := (some 11)) (v := ?_) (a' := ?_) #[true, true, true, true, true, true, true, true, true, true, true, true, true, true] rfl rfl (by kernel_rfl) (fun _ _ _ h => h) (Or.inl ⟨by rfl, ?_⟩) ?_ ?_
      rotate_left
      · intro w'
        go_simp
        with_reducible rfl
      rotate_left
      · simp only [Act.put, List.setIfInBounds_toArray, List.set_cons_zero, List.set_cons_succ, i64_w, i32_w]
        rfl
      refine done_ (by kernel_rfl) ?_
      go_wp2
      refine ⟨⟨i + 1, by omega, by first | rfl | go_num, ?_, G63.out.2⟩, by simp [intOf]; omega⟩
      rw [hnext.out]
      exact G63.out.1
    · obtain rfl : i = al.length := by omega
      have hlt' : ¬ ((al.length : Int) < (al.length : Int)) := by omega
      obtain ⟨more, hmore⟩ : ∃ more, RowKit.Hid (more = keys ++ endsP (al.take al.length)) := ⟨_, Lib.hid rfl⟩
      rw [← hmore.out] at hR
      have hml : more.length ≤ 8388608 := by
        have h := endsP_len (al.take al.length)
        rw [List.length_take] at h
        rw [hmore.out, List.length_append, h]
        have := LK.out; have := LAL.out; omega
      obtain ⟨Am, cm, rfl, hcm, hCm⟩ := Kd.R_reads hR
      have F := Lib.hid (And.intro hCm (And.intro hb hml))
      clear hR hb hcm hCm hsz hml
      obtain ⟨wo, hwo⟩ : ∃ wo : World, wo = wr := ⟨_, rfl⟩
      subst hwo
      go_upto_region 13 with (fail)
      go_loopw [13] (fun iv wr => ∃ i : Nat, i ≤ more.length ∧ iv = .int .i64 i ∧ Below wo.heap.size wo wr) (fun iv _ => more.length - (intOf iv).toNat)
      case atStart => exact ⟨0, by omega, rfl, Below.refl _ _⟩
      case round =>
        obtain ⟨i, hi, rfl, hq⟩ := hrel
        by_cases hlt2 : i < more.length
        · have l16 : (0 : Int) ≤ (i : Int) := by omega
          have u16 : (i : Int) < (more.length : Int) := by omega
          obtain ⟨ad, eA, y0⟩ := Kd.at_string (Kd.C_below F.out.1 hq) (i : Int) l16 u16
          simp only [Int.toNat_natCast] at y0
          obtain ⟨kk, hkk⟩ : ∃ kk, RowKit.Hid (kk = rdOf ByteArray.empty more (i : Int)) := ⟨_, Lib.hid rfl⟩
          rw [← hkk.out] at y0
          have b9q : Below w9.heap.size w9 wr := bt F.out.2.1 hq
          have hA : ∀ nn, Calls Try.prog 10 #[.slice A a.length c, .string kk] (wr.drewN nn) (fun e w' => e = .returned (.bool (Texts.hasL (a.map pR) kk.toList)) ∧ ∃ m, w' = (wr.drewN nn).drewN m) := fun nn => (hawserlaw06_has.calls _ A c a kk _ (wr.drewN nn) (Kd.C_drewN (Kd.C_below CA.out b9q) _) hc.out (has_f a kk (by have := LA.out; omega))).mono (fun _ _ ⟨h1, ⟨m, h2⟩⟩ => ⟨h1, m, h2⟩)
          have hB : ∀ nn, Calls Try.prog 10 #[.slice B b.length d, .string kk] (wr.drewN nn) (fun e w' => e = .returned (.bool (Texts.hasL (b.map pR) kk.toList)) ∧ ∃ m, w' = (wr.drewN nn).drewN m) := fun nn => (hawserlaw06_has.calls _ B d b kk _ (wr.drewN nn) (Kd.C_drewN (Kd.C_below CB.out b9q) _) hd.out (has_f b kk (by have := LB.out; omega))).mono (fun _ _ ⟨h1, ⟨m, h2⟩⟩ => ⟨h1, m, h2⟩)
          have hN := fun nn => hawserlaw06_has.calls _ A4 c4 n kk _ (wr.drewN nn) (Kd.C_drewN (Kd.C_below CN.out b9q) _) F4.out.2.1 (has_f n kk (by have := LN.out.1; omega))
          have hM := fun nn => hawserlaw06_has.calls _ A5 c5 m kk _ (wr.drewN nn) (Kd.C_drewN (Kd.C_below CM.out b9q) _) F5.out.2.1 (has_f m kk (by have := LN.out.2.1; omega))
          have hD := fun nn => hawserlaw06_has.calls _ A6 c6 dd kk _ (wr.drewN nn) (Kd.C_drewN (Kd.C_below CD.out b9q) _) F6.out.2.1 (has_f dd kk (by have := LN.out.2.2; omega))
          simp only [H3.out.1, H3.out.2.1, H3.out.2.2] at hN hM hD
          have HQ := Lib.hid hq
          generalize Texts.hasL (a.map pR) kk.toList = pp at hA hN hM hD
          generalize Texts.hasL (b.map pR) kk.toList = qq at hB hN hM hD
          have hw1 : IntKind.i64.wrap ((i : Int) + 1) = ((i + 1 : Nat) : Int) := by rw [IntWalk.i64_in _ (by have := F.out.2.2; omega)]; omega
          have hw2 : wrap64 ((i : Int) + 1) = ((i + 1 : Nat) : Int) := by rw [IntWalk.wrap64_in _ (by have := F.out.2.2; omega)]; omega
          replace l16 := eq_true l16
          replace u16 := eq_true u16
          clear hq b9q
          cases eA
          cases pp <;> cases qq
          all_goals
            simp only [Bool.or_self, Bool.or_true, Bool.or_false, Bool.true_or, Bool.and_true, Bool.and_false, Bool.and_self, Bool.not_true, Bool.not_false, Bool.false_or, Bool.true_and, Bool.false_and] at hN hM hD
            go_upto_region 15 with (fail)
            go_quiet ((first | (go_at_call 10; (with_reducible exact Calls.quiet_of (hA _))) | (go_at_call 10; (with_reducible exact Calls.quiet_of (hB _)))))
            go_wp2_with (first
              | (go_at_call 10; (with_reducible refine (hN _).mono ?_); rintro e w21 ⟨rfl, ⟨n21, rfl⟩⟩)
              | (go_at_call 10; (with_reducible refine (hM _).mono ?_); rintro e w22 ⟨rfl, ⟨n22, rfl⟩⟩)
              | (go_at_call 10; (with_reducible refine (hD _).mono ?_); rintro e w23 ⟨rfl, ⟨n23, rfl⟩⟩))
            refine ⟨⟨i + 1, by omega, by first | rfl | go_num, HQ.out.trans (pw_below_drewN (Below.refl _ _) _ |>.mono HQ.out.size)⟩, by simp [intOf]; omega⟩
        · obtain rfl : i = more.length := by omega
          have hlt' : ¬ ((more.length : Int) < (more.length : Int)) := by omega
          have HQ := Lib.hid (bt (bt B09.out F.out.2.1) hq)
          clear hq
          go_wp2
          go_ret
          exact ⟨rfl, HQ.out⟩
end Go.Proofs.Ytmjmjjhfficilaa.PSpanMembers
