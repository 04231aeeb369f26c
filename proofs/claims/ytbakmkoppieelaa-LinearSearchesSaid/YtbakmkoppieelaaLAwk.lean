/- What is proved: the program takes a history and refuses a reading of what never was; the law LinearNames returns true. -/
import Derived.Test.YtbakmkoppieelaaLSeaX
namespace Go.Proofs.Ytbakmkoppieelaa.PLinearChecks
open Go.RowKit Go.Proofs.YtbakmkoppieelaaW.PrintWords Go.Proofs.YtbakmkoppieelaaW.PrintLast Go.Proofs.YtbakmkoppieelaaW.PrintMore
set_option linter.unusedVariables false
set_option linter.unusedSimpArgs false
/-- A reading of what was put, that found nothing. -/
def rdC : S39 := ⟨2, 1, true, ⟨#[97]⟩, ⟨0, ⟨#[]⟩, ⟨#[]⟩, 0⟩, 2, 3, ⟨0, 0⟩, ⟨⟨#[]⟩, ⟨#[]⟩, 0⟩, false⟩
theorem rd_ok : refF [ownC, rdC] = 0 := by
  have hm : mayB ownC = true := by
    unfold mayB mayB16 updB opB usrB rowZ ownC
    simp only [ByteArray.toList_eq]
    decide
  have hm2 : mayB rdC = true := by
    unfold mayB mayB16 readB opZ resZ usrB rowZ rdC
    simp only [ByteArray.toList_eq]
    decide
  refine refF_ok (fun i i0 i1 => ?_)
  have e0 : rd_T39 [ownC, rdC] 0 = ownC := rfl
  have e1 : rd_T39 [ownC, rdC] 1 = rdC := rfl
  have hi : i = 0 ∨ i = 1 := by simp at i1; omega
  rcases hi with hi | hi <;> subst hi
  · refine ⟨by unfold bad1; rw [e0, hm]; rfl, fun k k0 k1 => ?_⟩
    have hk : k = 0 ∨ k = 1 := by simp at k1; omega
    rcases hk with hk | hk <;> subst hk <;> exact ⟨by unfold bad2; rfl, by unfold bad3; rfl⟩
  · refine ⟨by unfold bad1; rw [e1, hm2]; rfl, fun k k0 k1 => ?_⟩
    have hk : k = 0 ∨ k = 1 := by simp at k1; omega
    rcases hk with hk | hk <;> subst hk <;> exact ⟨by unfold bad2; rfl, by unfold bad3; rfl⟩
theorem rd_wf : ∀ x ∈ [ownC, rdC], wfC x := by
  intro x hx
  rcases List.mem_cons.mp hx with e | e
  · subst e; exact ⟨rfl, rfl⟩
  · have e := List.mem_singleton.mp e
    subst e; exact ⟨rfl, rfl⟩
theorem own_hap : hapF zC ownC = (⟨true, ⟨#[120]⟩, 1, 1, 0⟩, true) := by
  unfold hapF doF effF
  simp [ownC, ansB, zC, wrap64]
theorem rd_hap : (hapF ⟨true, ⟨#[120]⟩, 1, 1, 0⟩ rdC).2 = false := by
  unfold hapF
  simp [rdC]
theorem own_go : goF [ownC] 10 [] zK = some [0] := by
  refine go_some (i := 0) (by decide) (by decide) (fun j hj => by omega) ?_
  rw [try_go (by decide) (by show (hapF zC ownC).2 = true; rw [own_hap])]
  exact go_whole (by decide)
theorem rd_go : goF [ownC, rdC] 10 [] zK = none := by
  refine go_none (by decide) (fun j hj => ?_)
  have hj2 : j = 0 ∨ j = 1 := by simp at hj; omega
  rcases hj2 with e | e <;> subst e
  · rw [try_go (by decide) (by show (hapF zC ownC).2 = true; rw [own_hap])]
    refine go_none (by decide) (fun j hj => ?_)
    have hj2 : j = 0 ∨ j = 1 := by simp at hj; omega
    rcases hj2 with e | e <;> subst e
    · exact try_no (by decide)
    · refine try_bad ?_
      unfold updK
      rw [if_pos (show kyF [ownC, rdC] 1 = kyF [ownC, rdC] 0 from rfl)]
      show (hapF (hapF zC ownC).1 rdC).2 = false
      rw [own_hap]
      exact rd_hap
  · exact try_no (by decide)
theorem own_src : srcF [ownC] = some [0] ∧ srcE [ownC] = 0 := ⟨(if_pos ⟨own_ok, by decide⟩).trans own_go, by unfold srcE; rw [if_pos own_ok]; rfl⟩
theorem rd_src : srcF [ownC, rdC] = none ∧ srcE [ownC, rdC] = 0 := ⟨(if_pos ⟨rd_ok, by decide⟩).trans rd_go, by unfold srcE; rw [if_pos rd_ok]; rfl⟩
theorem own_ks : ∀ i : Int, 0 ≤ i → i < [ownC].length → (rd_T39 [ownC] i).f3.size ≤ maxLen := by
  intro i h0 h1
  have hi : i = 0 := by simp at h1; omega
  subst hi
  decide
theorem rd_ks : ∀ i : Int, 0 ≤ i → i < [ownC, rdC].length → (rd_T39 [ownC, rdC] i).f3.size ≤ maxLen := by
  intro i h0 h1
  have hi : i = 0 ∨ i = 1 := by simp at h1; omega
  rcases hi with hi | hi <;> subst hi <;> decide
theorem one_rep (W : World) (base : Nat) (x : S39) : Reps (k39.M W base (fun _ => True)) k39.sz [x] (callL x) := by
  have h := Reps.front (show Kd.M k39 W base (fun _ => True) x (callL x) from k39_mkM _ _ _ x) rfl (Reps.none (k39.M W base (fun _ => True)) k39.sz) rfl
  rw [List.append_nil] at h
  exact h
theorem one_R (W : World) (x : S39) : Kd.R k39 39 (W.alloc (.cells (callL x).toArray 39)) W.heap.size (fun _ => True) (.slice (some ⟨W.heap.size, 0, none⟩) 1 1) [x] := by
  refine ⟨fun k hk => trivial, callL x, ?_, ?_⟩
  · have h2 := World.ownsRow_lit (base := W.heap.size) (e := 39) (size := k39.sz) W (callL x).toArray 1 (Nat.le_refl _) (by decide) (by rfl)
    have h3 : (W.alloc (.cells (callL x).toArray 39)).ownsRow W.heap.size 39 k39.sz (.slice (some ⟨W.heap.size, 0, none⟩) 1 1) 1 (callL x) := by simpa using h2
    exact h3
  · refine (one_rep W W.heap.size x).imp_ (fun p c hp => k39.M_mono (fun k hk => ⟨trivial, fun he => ?_⟩) (Kd.M_below (k39.M_bound hp) (below_alloc (Below.refl _ _) _)))
    have h3 : k = W.heap.size := by simpa [Value.ownBlock] using he
    have := hk.2.2.1
    omega
theorem one_C (W : World) (x : S39) : Kd.C k39 (W.alloc (.cells (callL x).toArray 39)) (some ⟨W.heap.size, 0, none⟩) 1 [x] := (Kd.R_reads' (one_R W x)).2.2
theorem src_use {w : World} {l : List S39} {r : Option (List Nat)} {n : Int} (h1 : srcF l = r) (h2 : srcE l = n) {e : Ending} {w' : World} (h : SrcTo w l e w') : ∃ v, e = .returned (.tuple #[v, .bool r.isSome, .int .i64 n]) ∧ w'.ownsRow w.heap.size 3 1 v (r.getD []).length (ordV (r.getD [])) ∧ Below w.heap.size w w' := by
  unfold SrcTo at h
  rw [h1, h2] at h
  exact h
theorem owns_parts {w : World} {B n : Nat} {v : Value} {xs : List Value} (h : w.ownsRow B 3 1 v n xs) : ∃ A c, v = .slice A n c ∧ n ≤ c := by
  rcases h.2 with ⟨e, e2⟩ | ⟨g, cap, cur, e, hb, hg, hc, hm, hs, ht⟩
  · subst e2
    exact ⟨none, 0, e, Nat.le_refl _⟩
  · exact ⟨_, cap, e, hc⟩
set_option maxRecDepth 100000 in
set_option maxHeartbeats 16000000 in
theorem awake_any (w : World) : Calls Try.prog 32 #[] w fun e w' => e = .returned (.bool true) ∧ Below w.heap.size w w' := by
  have OWN := Lib.hid (fun W => hawserlaw26_own.calls [ownC] W rfl)
  have S1 := Lib.hid (fun W A c (hC : Kd.C k39 W A 1 [ownC]) (hc : 1 ≤ c) => (show Calls Try.prog 33 #[.slice A 1 c] W (fun e w' => SrcTo W [ownC] e w') from search_any W A c [ownC] hC hc (by decide) own_wf own_ks))
  have S2 := Lib.hid (fun W A c (hC : Kd.C k39 W A 2 [ownC, rdC]) (hc : 2 ≤ c) => (show Calls Try.prog 33 #[.slice A 2 c] W (fun e w' => SrcTo W [ownC, rdC] e w') from search_any W A c [ownC, rdC] hC hc (by decide) rd_wf rd_ks))
  go_enter Try.func32, Try.ntmps32
  go_upto_region 2 with (first
    | (go_at_call 21; (with_reducible refine (OWN.out _).mono ?_); rintro e_ W1 ⟨v1, rfl, hR, hb⟩; have R1 := Lib.hid hR; have HB := Lib.hid hb; clear hb hR)
    | (at_builtin; refine Kd.R_append_rows k39 (Rr := k39.K (W1.alloc (.cells (callL rdC).toArray 39))) (w0 := w) w.heap.size rfl (.tmp 8) (.tmp 10) 22 39 (.agg #[.int .i64 0, .int .i64 0, .bool false, .string ⟨#[]⟩, .int .i64 0, .string ⟨#[]⟩, .string ⟨#[]⟩, .int .i64 0, .int .i64 0, .int .i64 0, .int .i64 0, .int .i64 0, .string ⟨#[]⟩, .string ⟨#[]⟩, .int .i64 0, .bool false]) 168 rfl Try.underlying22 info39 rfl (by decide) (by decide) v1 [ownC] [rdC] (some ⟨W1.heap.size, 0, none⟩) 1 1 (fun _ => True) (fun _ => False) rfl rfl (Kd.R_alloc R1.out _) (one_C W1 rdC) (fun x cs h => by rw [k39_open h]; exact k39_mkM _ _ _ x) (fun _ h => h.elim) (fun _ _ => trivial) (HB.out.alloc HB.out.size _) (by have := HB.out.size; simp; omega) (by simp) ?_; intro v2 w2 hR2 hb2 hg2 hat2; have R2 := Lib.hid (show Kd.R k39 39 w2 w.heap.size (fun _ => True) v2 [ownC, rdC] from hR2); replace HB := Lib.hid hb2; clear hR2 hb2 hg2 hat2 R1)
    | (fail))
  obtain ⟨A2, c2, rfl, hc2, hC2⟩ := Kd.R_reads R2.out
  have C2 := Lib.hid (show Kd.C k39 w2 A2 2 [ownC, rdC] from hC2)
  have HC2 := Lib.hid (show 2 ≤ c2 from hc2)
  clear hC2 hc2
  go_upto_region 3 with (first
    | (go_at_call 21; (with_reducible refine (OWN.out _).mono ?_); rintro e_ W3 ⟨v3, rfl, hR, hb⟩; obtain ⟨A3, c3, rfl, hc3, hC3⟩ := Kd.R_reads hR; have C3 := Lib.hid (show Kd.C k39 _ A3 1 [ownC] from hC3); have HC3 := Lib.hid (show 1 ≤ c3 from hc3); replace C2 := Lib.hid (Kd.C_below C2.out hb); replace HB := Lib.hid (below_step HB.out hb); clear hb hR hC3 hc3)
    | (go_at_call 33; ((with_reducible refine (S1.out _ A3 c3 C3.out HC3.out).mono ?_); rintro e_ W4 h4; obtain ⟨v4, rfl, ho4, hb4⟩ := src_use own_src.1 own_src.2 h4; obtain ⟨A4, c4, rfl, hc4⟩ := owns_parts ho4; replace C2 := Lib.hid (Kd.C_below C2.out hb4); replace HB := Lib.hid (below_step HB.out hb4); clear h4 ho4 hb4))
    | (fail))
  go_upto_region 4 with (first
    | (go_at_call 33; (with_reducible refine (S2.out _ A2 c2 C2.out HC2.out).mono ?_); rintro e_ W5 h5; obtain ⟨v5, rfl, ho5, hb5⟩ := src_use rd_src.1 rd_src.2 h5; replace HB := Lib.hid (below_step HB.out hb5); clear h5 ho5 hb5)
    | (fail))
  go_wp2
  go_ret
  exact ⟨by first | rfl | simp, HB.out⟩
end Go.Proofs.Ytbakmkoppieelaa.PLinearChecks
