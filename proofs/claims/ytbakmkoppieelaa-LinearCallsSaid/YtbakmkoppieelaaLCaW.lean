/- What is proved: the walk of the law LinearCalls: it returns true; the conditions stand in the theorem. -/
import Derived.Test.YtbakmkoppieelaaLCaR
namespace Go.Proofs.Ytbakmkoppieelaa.PLinearChecks
open Go.RowKit Go.Proofs.YtbakmkoppieelaaW.PrintWords Go.Proofs.YtbakmkoppieelaaW.PrintLast Go.Proofs.YtbakmkoppieelaaW.PrintMore
set_option linter.unusedVariables false
set_option linter.unusedSimpArgs false
/-- The row that the law gives: one client asks for a key. -/
def ownA : Ask := ⟨1, 1, 1, true, ⟨#[97]⟩, ⟨0, ⟨#[]⟩, ⟨#[]⟩, 0⟩, ⟨0, 0⟩, ⟨⟨#[]⟩, ⟨#[]⟩, 0⟩, false⟩
def ownV : List Value := [.int .i64 1, .int .i64 0, .int .i64 0, .int .i64 1, .int .i64 1, .int .i64 0, .int .i64 0, .int .i64 0, .bool true, .string ⟨#[97]⟩, .int .i64 0, .string ⟨#[]⟩, .string ⟨#[]⟩, .int .i64 0, .int .i64 0, .int .i64 0, .int .i64 0, .int .i64 0, .string ⟨#[]⟩, .string ⟨#[]⟩, .int .i64 0, .int .i64 0, .int .i64 0, .string ⟨#[]⟩, .string ⟨#[]⟩, .int .i64 0, .bool false, .int .i64 0, .slice none 0 0, .int .i64 0, .slice none 0 0, .int .i64 0, .int .i64 0, .slice none 0 0]
def ownZ (k : Nat) : Value := match k with
  | 18 => .string ⟨#[]⟩
  | 19 => .string ⟨#[]⟩
  | 28 => .slice none 0 0
  | 30 => .slice none 0 0
  | 33 => .slice none 0 0
  | _ => .int .i64 0
theorem ownZ_one (k : Nat) : (ownZ k).oneCell' = true := by
  unfold ownZ
  split <;> rfl
theorem own_seen : seenL ownA ownZ = ownV := rfl
theorem RS.mono {w W : World} {A : Option Addr} {rows : List Ask} (h : RS w A rows) (hb : Below w.heap.size w W) : RS W A rows := fun W' h2 => h W' (hb.trans (h2.mono hb.size))
theorem own_RS {W : World} {g : Nat} (h : W.heap[g]? = some (.cells ownV.toArray 64 (0, 0))) : RS W (some ⟨g, 0, none⟩) [ownA] := by
  intro W' hb i hi
  have e : i = 0 := by simpa using hi
  subst e
  refine ⟨_, ownZ, rfl, ownZ_one, fun j v hv => ?_⟩
  have h2 := blk_below h hb
  have h3 : ((⟨g, 0, none⟩ : Addr).add (0 * 34)).add j = ⟨g, j, none⟩ := by
    rw [add_add]
    simp [Addr.add]
    exact fun h => h.symm
  rw [h3, blk_cell h2]
  simpa [own_seen] using hv
theorem own_RSl (W : World) : RS (W.alloc (.cells #[.int .i64 1, .int .i64 0, .int .i64 0, .int .i64 1, .int .i64 1, .int .i64 0, .int .i64 0, .int .i64 0, .bool true, .string ⟨#[97]⟩, .int .i64 0, .string ⟨#[]⟩, .string ⟨#[]⟩, .int .i64 0, .int .i64 0, .int .i64 0, .int .i64 0, .int .i64 0, .string ⟨#[]⟩, .string ⟨#[]⟩, .int .i64 0, .int .i64 0, .int .i64 0, .string ⟨#[]⟩, .string ⟨#[]⟩, .int .i64 0, .bool false, .int .i64 0, .slice none 0 0, .int .i64 0, .slice none 0 0, .int .i64 0, .int .i64 0, .slice none 0 0] 64)) (some ⟨W.heap.size, 0, none⟩) [ownA] := own_RS (show (W.alloc (.cells ownV.toArray 64)).heap[W.heap.size]? = _ from heap_alloc_new W _)
theorem run_len {f : (S39 → Bool) → List S39 → Int} : ∀ (rows : List Ask) (i : Int) (l l2 : List S39), runW f rows i l = some l2 → l2.length ≤ l.length + rows.length := by
  intro rows
  induction rows with
  | nil => intro i l l2 h; obtain rfl := Option.some.inj (show some l = some l2 from h); exact Nat.le_refl _
  | cons r t ih =>
    intro i l l2 h
    unfold runW at h
    cases hs : stepW f i r l with
    | none => rw [hs] at h; cases h
    | some l3 =>
      rw [hs] at h
      have h1 := ih (i + 1) l3 l2 h
      have h2 := step_len hs
      simp only [List.length_cons]
      omega
theorem out_len (f : (S39 → Bool) → List S39 → Int) (rows : List Ask) : (outW refF (runW f rows 0 [])).1.length ≤ rows.length := by
  cases h : runW f rows 0 [] with
  | none => exact Nat.zero_le _
  | some l =>
    have h1 := run_len rows 0 [] l h
    show (if refF l = 0 then (l, (0 : Int)) else ([], 260)).1.length ≤ _
    split
    · simpa using h1
    · exact Nat.zero_le _
theorem ask_ok : refF [askC ownA 0] = 0 := by
  have hm : mayB (askC ownA 0) = true := by
    unfold mayB mayB16 readB usrB rowZ opZ resZ askC ownA
    simp only [ByteArray.toList_eq]
    decide
  refine refF_ok (fun i i0 i1 => ?_)
  have hi : i = 0 := by simp at i1; omega
  subst hi
  have e : rd_T39 [askC ownA 0] 0 = askC ownA 0 := rfl
  refine ⟨by unfold bad1; rw [e, hm]; rfl, fun k k0 k1 => ?_⟩
  have hk : k = 0 := by simp at k1; omega
  subst hk
  exact ⟨by unfold bad2; rfl, by unfold bad3; rfl⟩
theorem own_out : outW refF (runW fstI [ownA] 0 []) = ([askC ownA 0], 0) := by
  have h : runW fstI [ownA] 0 [] = some [askC ownA 0] := rfl
  rw [h]
  show (if refF [askC ownA 0] = 0 then ([askC ownA 0], (0 : Int)) else ([], 260)) = _
  rw [if_pos ask_ok]
theorem cal_use {w w' : World} {p : List S39 × Int} {l : List S39} {n : Int} {e : Ending} (hp : p = (l, n)) (h : CalTo w p e w') : ∃ v, e = .returned (.tuple #[v, .int .i64 n]) ∧ Kd.R k39 39 w' w.heap.size (fun _ => True) v l ∧ Below w.heap.size w w' := by
  subst hp
  exact h
set_option maxHeartbeats 16000000 in
set_option maxRecDepth 100000 in
theorem calls_walk (w : World) (A : Option Addr) (c : Nat) (rows : List Ask) (hr : RS w A rows) (hc : rows.length ≤ c) (hn : rows.length * 168 ≤ 140737488351232) :
    Calls Try.prog 5 #[.slice A rows.length c] w fun e w' => e = .returned (.bool true) ∧ Below w.heap.size w w' := by
  have hu39 := Try.underlying39
  have HN := Lib.hid hn
  have HC := Lib.hid hc
  have RR := Lib.hid hr
  have HB := Lib.hid (Below.refl w.heap.size w)
  obtain ⟨⟨gl, ge⟩, hp⟩ : ∃ q, RowKit.Hid (outW refF (runW fstI rows 0 []) = q) := ⟨_, Lib.hid rfl⟩
  have hp2 := Lib.hid ((calls_both (rf := refF) (fun l h => dup_bad h) rows 0 []).symm.trans hp.out)
  have GN := Lib.hid (show gl.length ≤ 1000000000000 by have h1 := out_len fstI rows; rw [hp.out] at h1; have h2 := HN.out; have h3 : gl.length ≤ rows.length := h1; omega)
  have OWN := Lib.hid (fun W A c (h : RS W A [ownA]) (h1 : 1 ≤ c) => (show Calls Try.prog 27 #[.slice A 1 c] W (fun e w' => CalTo W ([askC ownA 0], 0) e w') from own_out ▸ calls_any W A c [ownA] h h1 (by decide)))
  clear hr hn hc
  go_enter Try.func5, Try.ntmps5
  go_wp2_with (first
    | (go_at_call 27; (with_reducible refine (calls_any _ A c rows RR.out HC.out HN.out).mono ?_); rintro e_ W_ h_; obtain ⟨v_, rfl, hR, hb⟩ := cal_use hp.out h_; obtain ⟨Ag, cg, rfl, hcg, CG_⟩ := Kd.R_reads hR; have CG := Lib.hid CG_; have Hcg := Lib.hid hcg; clear hcg CG_; replace RR := Lib.hid (RR.out.mono hb); replace HB := Lib.hid (below_step HB.out hb); clear hb hR h_)
    | (go_at_call 28; (with_reducible refine (rcalls_any _ A c rows RR.out HC.out HN.out).mono ?_); rintro e_ W_ h_; obtain ⟨v_, rfl, hR, hb⟩ := cal_use hp2.out h_; obtain ⟨Ah, ch, rfl, hch, CH_⟩ := Kd.R_reads hR; have CH := Lib.hid CH_; have Hch := Lib.hid hch; clear hch CH_; replace CG := Lib.hid (Kd.C_below CG.out hb); replace HB := Lib.hid (below_step HB.out hb); clear hb hR h_ RR)
    | (go_at_call 27; (with_reducible refine (OWN.out _ _ 1 (own_RSl _) (Nat.le_refl 1)).mono ?_); rintro e_ W_ h_; obtain ⟨v_, rfl, hR, hb⟩ := cal_use rfl h_; obtain ⟨Ao, co, rfl, hco, CO_⟩ := Kd.R_reads hR; have CO := Lib.hid (show Kd.C k39 _ Ao 1 [askC ownA 0] from CO_); clear hco CO_; have hb1 := (below_alloc (Below.refl _ _) _).trans (hb.mono (by simp)); replace CG := Lib.hid (Kd.C_below CG.out hb1); replace CH := Lib.hid (Kd.C_below CH.out hb1); replace HB := Lib.hid (below_step HB.out hb1); clear hb hb1 hR h_)
    | (go_at_call 25; (with_reducible refine (hawserlaw26_sameCalls.calls (2 * gl.length + 2) Ag cg gl Ah ch gl true _ CG.out Hcg.out CH.out Hch.out (same_refl gl GN.out)).mono ?_); rintro e_ W_ ⟨rfl, hd⟩; have hb := hd.below; clear hd; replace CO := Lib.hid (Kd.C_below CO.out hb); replace HB := Lib.hid (below_step HB.out hb); clear hb)
    | (go_at_call 15; (with_reducible refine (hawserlaw26_num.calls ge ge _ rfl).mono ?_); rintro e_ W_ ⟨rfl, hd⟩; have hb := hd.below; clear hd; obtain ⟨ad, eA, m0, m1, m2, m3, m4, m5, m6, m7, m8, m9, m10, m11, m12, m13, m14, m15⟩ := at_T39 (Kd.C_below CO.out hb) 0 (by decide) (by decide); cases eA; clear m0 m1 m2 m3 m4 m5 m6 m7 m8 m10 m11 m12 m13 m14 m15; replace m9 : W_.cell? ⟨(ad.add 0).block, (ad.add 0).off + 9, none⟩ = some (.int .i64 (-1)) := m9; replace m9 : W_.cell? ⟨ad.block, ad.off + 9, none⟩ = some (.int .i64 (-1)) := (by simpa [Addr.add] using m9); replace HB := Lib.hid (below_step HB.out hb); clear hb)
    | (fail))
  go_ret
  exact ⟨by first | rfl | simp, HB.out⟩
end Go.Proofs.Ytbakmkoppieelaa.PLinearChecks
