/- What is proved: the contract of sha.Sum of one part; the conditions stand in the theorem. -/
import Derived.Test.YtcjhephlhgpfkaaShaF
import Derived.Deep.DeepCutAuto
import Derived.Deep.CutBlock
namespace Go.Proofs.Ytcjhephlhgpfkaa.Sha
open Go.RowKit Go.Proofs.YtcjhephlhgpfkaaW.PrintWords Go.Proofs.YtcjhephlhgpfkaaW.PrintLast
set_option linter.unusedVariables false
set_option linter.unusedSimpArgs false
def restL (L : List Int) : List Int := L.drop (64 * (L.length / 64))
def shaF (L : List Int) : Nat → Int := byteS (stB (padK (restL L) L.length 8) (stB L beginS (L.length / 64)) ((padK (restL L) L.length 8).length / 64))
def digV (L : List Int) : Value := .agg (Row32 (shaF L) 32)
set_option maxRecDepth 100000 in
set_option maxHeartbeats 8000000 in
theorem one_any (w : World) (p : Addr) (cp : Nat) (A : Option Addr) (c : Nat) (L : List Int) (hp : w.cell? p = some (.slice A L.length c)) 
    (hr : ReadsInt w .u8 A L.length L) (hc : L.length ≤ c) (hL : ∀ x ∈ L, 0 ≤ x ∧ x ≤ 255) (hlen : L.length ≤ 70368744177664) :
    Calls Try.prog 12 #[.slice (some p) 1 cp] w fun e w' => e = .returned (digV L) ∧ Below w.heap.size w w' := by
  go_enter Try.func12, Try.ntmps12
  go_upto_region 1 with (fail)
  refine abs_world ?_
  intro w1 hw1
  have hb1 : Below w.heap.size w w1 := by rw [hw1]; exact (Below.refl _ _).alloc (Nat.le_refl _) _
  have z1 : w1.heap.size = w.heap.size + 1 := by rw [hw1]; exact Array.size_push _
  have t1 : w1.heap[w.heap.size]? = some (.cells (Row32 (fun _ => 0) 0) 23 (0, 0)) := by rw [hw1]; exact heap_alloc_new w _
  have hltp : p.block < w.heap.size := World.block_lt_of_cell? w _ hp
  have p1 : w1.cell? p = some (.slice A L.length c) := (hb1.cell hltp).trans hp
  have r1 := hr.below hb1
  have hA1 : ∀ ad, A = some ad → 0 < L.length → ad.block < w1.heap.size := by
    intro ad e h0
    obtain ⟨ad', e', hcc⟩ := r1.2.2 h0
    rw [e] at e'
    injection e' with e'
    subst e'
    have := World.block_lt_of_cell? w1 (ad.add 0) (hcc 0 h0)
    rwa [addr_add_block] at this
  clear hw1 hp hr
  go_upto_region 2 with (first
    | (go_at_call 17; refine (new_any _).mono ?_; rintro e w2 ⟨H, rfl, hH0, hH, hb2⟩))
  have lt2 : H < w2.heap.size := by rcases Nat.lt_or_ge H w2.heap.size with h | h; exact h; rw [Array.getElem?_eq_none h] at hH; cases hH
  have p2 : w2.cell? p = some (.slice A L.length c) := (hb2.cell (by omega)).trans p1
  have r2 := r1.below hb2
  have t2 := (hb2.block w.heap.size (by omega)).trans t1
  have b2 : Below w.heap.size w w2 := hb1.trans (hb2.mono (by omega))
  have hA2 : ∀ ad, A = some ad → 0 < L.length → ad.block ≠ H := fun ad e h0 => by have := hA1 ad e h0; omega
  have z2 := hb2.size
  have ltw : w.heap.size < H := by omega
  have G := Lib.hid (And.intro hH (And.intro p2 (And.intro r2 (And.intro t2 (And.intro b2 hA2)))))
  clear hH p1 p2 r1 r2 t1 t2 hb1 hb2 b2 hA1 hA2 z1 z2 hH0
  go_upto_region 3 with (fail)
  go_loopw [9] (fun v wr => (v = .int .i64 0 ∧ wr = w2) ∨ (v = .int .i64 1 ∧ WritePost H beginS L w2 (.returned (.tuple #[])) wr)) (fun v _ => 1 - (intOf v).toNat)
  case atStart => exact .inl ⟨rfl, rfl⟩
  case round =>
    rcases hrel with ⟨rfl, rfl⟩ | ⟨rfl, hq⟩
    · have p2 := G.out.2.1
      go_wp2_with (first
        | (go_at_call 18; refine (write_any _ H beginS A c L G.out.1 G.out.2.2.1 hc G.out.2.2.2.2.2 hL hlen).mono ?_; rintro e wd ⟨v, rfl, hqd⟩))
      exact ⟨.inr ⟨rfl, v, rfl, hqd⟩, by simp [intOf]⟩
    · obtain ⟨v, -, qH, qo, qg⟩ := hq
      obtain ⟨A', c', rfl, hc', hr', hA'⟩ := own_shape qo
      have qR : ∀ x ∈ restL L, 0 ≤ x ∧ x ≤ 255 := fun x hx => hL x (List.mem_of_mem_drop hx)
      have qm : (restL L).length < 64 := by unfold restL; rw [List.length_drop]; omega
      have qt : wr.heap[w.heap.size]? = some (.cells (Row32 (fun _ => 0) 0) 23 (0, 0)) := (qg.block _ (by omega) (fun e => by injection e; omega)).trans G.out.2.2.2.1
      have kb : Below w.heap.size w wr := G.out.2.2.2.2.1.trans ⟨qg.os, qg.tape, qg.output, qg.size, fun k hk => qg.block k (by omega) (fun e => by injection e; omega)⟩
      have lt0 : w.heap.size < wr.heap.size := by rcases Nat.lt_or_ge w.heap.size wr.heap.size with h | h; exact h; rw [Array.getElem?_eq_none h] at qt; cases qt
      clear qo qg hc' hA'
      go_wp2_with (first
        | (go_at_call 19; refine (sum_any wr H (stB L beginS (L.length / 64)) A' c' (restL L) L.length qH hr' qm qR hlen).mono ?_; rintro e wd ⟨rfl, hbd⟩)
        | (refine wpList_store_rowTo rfl 23 (.tmp 2) (.tmp 18) rfl rfl w.heap.size (Row32 (shaF L) 32) rfl rfl 23 _ ((hbd.block w.heap.size lt0).trans qt) (by kernel_rfl) (by kernel_rfl) (by kernel_rfl) ?_; refine abs_list ?_; intro we hwe))
      have hg : we.heap[w.heap.size]? = some (.cells (Row32 (shaF L) 32) 23 (0, 0)) := by
        rw [hwe]; exact setRow_heap _ _ _ _ _ _ ((hbd.block w.heap.size lt0).trans qt)
      have hb : Below w.heap.size w we := by rw [hwe]; exact below_setRow (kb.trans (hbd.mono kb.size)) (Nat.le_refl _) _
      exact bodyPost_ret (results_cell_row (P := Try.prog) rfl _ _ w.heap.size 23 _ (0, 0) _ rfl hg Try.underlying23 rfl (by kernel_rfl)) rfl ⟨rfl, hb⟩
end Go.Proofs.Ytcjhephlhgpfkaa.Sha
