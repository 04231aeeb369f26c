/- What is proved: the walks of hawserlaw06's roomy and kept, and of the law SpanNormals; the conditions stand in the theorems. -/
import Derived.Test.YtijlanhhelichaaDoorNormalsRoom
import Derived.Lib.Hide
import Derived.Deep.DeepCutAuto
import Derived.Deep.CutBlock
import Derived.Laws.Rows
import Derived.Laws.StructEq
namespace Go.Proofs.YtijlanhhelichaaDoor.NormalsWalk
open Go.RowKit Go.Proofs.YtijlanhhelichaaDoor.PSpanNormals Go.Proofs.YtijlanhhelichaaDoor.Normals Go.Proofs.YtijlanhhelichaaDoorW.PrintWords Go.Proofs.YtijlanhhelichaaDoorW.PrintLast Go.Proofs.YtijlanhhelichaaDoorW.PrintMore
set_option linter.unusedVariables false
set_option linter.unusedSimpArgs false
set_option maxRecDepth 100000 in
set_option maxHeartbeats 8000000 in
theorem normals_walk (w : World) (A : Option Addr) (c : Nat) (l : List S28) (hr : Kd.C k28 w A l.length l) (hc : l.length ≤ c) (hl : l.length ≤ 1048576) (hm : Mark w) :
    Calls Tryd.prog 5 #[.slice A l.length c] w fun e w' => e = .returned (.bool true) ∧ Below w.heap.size w w' := by
  obtain ⟨kp, kr, ks, got, wnt, h1, h2, h3, h4⟩ := normals_law l hl
  have hroomy := roomy w A c l hr hc hl hm
  have hnorm : ∀ W A1 c1, Kd.C k28 W A1 l.length l → l.length ≤ c1 → Calls Tryd.prog 18 #[.slice A1 l.length c1] W fun e w' => ∃ v0 : Value, e = .returned v0 ∧ Kd.R k28 28 w' W.heap.size (fun _ => True) v0 got ∧ Below W.heap.size W w' := fun W A1 c1 a b => span_Normal.calls A1 c1 l got W a b h2
  have hplain : ∀ W, Kd.C k28 W A l.length l → Calls Tryd.prog 20 #[.slice A l.length c] W fun e w' => ∃ v0 : Value, e = .returned v0 ∧ Kd.R k31 31 w' W.heap.size (fun _ => True) v0 (l.map conv) ∧ Below W.heap.size W w' := fun W a => hawserlaw06_plain.calls kp A c l (l.map conv) W a hc h1
  have hml : (l.map conv).length = l.length := List.length_map ..
  have href : ∀ W A1 c1, Kd.C k31 W A1 l.length (l.map conv) → l.length ≤ c1 → Calls Tryd.prog 19 #[.slice A1 l.length c1] W fun e w' => ∃ v0 : Value, e = .returned v0 ∧ Kd.R k31 31 w' W.heap.size (fun _ => True) v0 wnt ∧ Below W.heap.size W w' := fun W A1 c1 a b => by
    have h := hawserref06_Normal.calls kr A1 c1 (l.map conv) wnt W (by rw [hml]; exact a) (by rw [hml]; exact b) h3
    rw [hml] at h
    exact h
  have hsame : ∀ W A1 c1 A2 c2, Kd.C k28 W A1 got.length got → got.length ≤ c1 → Kd.C k31 W A2 wnt.length wnt → wnt.length ≤ c2 → Calls Tryd.prog 21 #[.slice A1 got.length c1, .slice A2 wnt.length c2] W fun e w' => e = .returned (.bool true) ∧ Drawn0 W w' := fun W A1 c1 A2 c2 a b a' b' => hawserlaw06_same.calls ks A1 c1 got A2 c2 wnt true W a b a' b' h4
  have hkept : ∀ W A1 c1, Kd.C k28 W A1 (l.length + 12) (l ++ List.replicate 12 mk) → l.length + 12 ≤ c1 → Kd.C k28 W A l.length l → Mark W → Calls Tryd.prog 22 #[.slice A1 l.length c1, .slice A l.length c] W fun e w' => e = .returned (.bool true) ∧ Below W.heap.size W w' := fun W A1 c1 a b a' m' => kept W A1 A c1 c l a b a' hc hl m'
  have R := Lib.hid (And.intro hr (And.intro hl hm))
  clear h1 h2 h3 h4 hr hl hm
  obtain ⟨n, hn⟩ : ∃ n, RowKit.Hid (n = l.length) := ⟨_, Lib.hid rfl⟩
  rw [← hn.out] at hroomy hnorm hplain href hkept hc R hml ⊢
  go_enter Tryd.func5, Tryd.ntmps5
  go_upto_region 2 with (first
    | (go_at_call 17; (with_reducible refine hroomy.mono ?_); rintro e w1 ⟨A1, c1, rfl, hc1, hR1, hb1⟩))
  have hC1 : Kd.C k28 w1 A1 (n + 12) (l ++ List.replicate 12 mk) := by
    have h := (Kd.R_reads' hR1).2.2
    rw [List.length_append, List.length_replicate, ← hn.out] at h
    exact h
  have hC0 : Kd.C k28 w1 A1 n l := by
    have hz : Kd.C k28 w1 A1 (l ++ List.replicate 12 mk).length (l ++ List.replicate 12 mk) := by rw [List.length_append, List.length_replicate, ← hn.out]; exact hC1
    have h := Kd.C_take hz (m := l.length) (by rw [List.length_append]; omega)
    rw [List.take_left' rfl, ← hn.out] at h
    exact h
  have F1 := Lib.hid (And.intro hb1 (And.intro hC1 (And.intro hC0 hc1)))
  clear hb1 hC1 hC0 hR1 hc1 hroomy
  go_upto_region 3 with (first
    | (go_at_call 18; (with_reducible refine (hnorm w1 A1 c1 F1.out.2.2.1 (by have := F1.out.2.2.2; omega)).mono ?_); rintro e w2 ⟨v2, rfl, hR2, hb2⟩; have hR2 := Lib.hid hR2; have hb2 := Lib.hid hb2)
    | (go_at_call 18; (with_reducible refine (hnorm w2 A1 c1 (Kd.C_below F1.out.2.2.1 hb2.out) (by have := F1.out.2.2.2; omega)).mono ?_); rintro e w3 ⟨v3, rfl, hR3, hb3⟩; have hR3 := Lib.hid hR3; have hb3 := Lib.hid hb3))
  have b3 : RowKit.Hid (Below w1.heap.size w1 w3) := Lib.hid (hb2.out.trans (hb3.out.mono hb2.out.size))
  have b03 : RowKit.Hid (Below w.heap.size w w3) := Lib.hid (F1.out.1.trans (b3.out.mono F1.out.1.size))
  go_upto_region 4 with (first
    | (go_at_call 20; (with_reducible refine (hplain w3 (Kd.C_below R.out.1 b03.out)).mono ?_); rintro e w4 ⟨v4, rfl, hR4, hb4⟩; obtain ⟨A4, c4, rfl, hc4, hC4⟩ := Kd.R_reads hR4; rw [hml] at hc4 hC4 ⊢; have hC4 := Lib.hid hC4; have hb4 := Lib.hid hb4)
    | (go_at_call 19; (with_reducible refine (href w4 A4 c4 hC4.out hc4).mono ?_); rintro e w5 ⟨v5, rfl, hR5, hb5⟩; have hR5 := Lib.hid hR5; have hb5 := Lib.hid hb5))
  have b35 : Below w3.heap.size w3 w5 := hb4.out.trans (hb5.out.mono hb4.out.size)
  have b05 : Below w.heap.size w w5 := b03.out.trans (b35.mono b03.out.size)
  have b15 : Below w1.heap.size w1 w5 := b3.out.trans (b35.mono b3.out.size)
  obtain ⟨A2, c2, rfl, hc2, hC2⟩ := Kd.R_reads hR2.out
  obtain ⟨A3, c3, rfl, hc3, hC3⟩ := Kd.R_reads hR3.out
  obtain ⟨A5, c5, rfl, hc5, hC5⟩ := Kd.R_reads hR5.out
  have G := Lib.hid (And.intro b05 (And.intro (Kd.C_below hC2 (hb3.out.trans (b35.mono hb3.out.size))) (And.intro (Kd.C_below hC3 b35) (And.intro hC5 (And.intro (Kd.C_below F1.out.2.1 b15) (And.intro (Kd.C_below R.out.1 b05) (R.out.2.2.below b05)))))))
  clear b35 b05 b15 hC2 hC3 hC5 hR2 hR3 hR5 hb2 hb3 hb4 hb5 hC4 hc4 b3 b03
  obtain ⟨gl, hgl⟩ : ∃ gl, RowKit.Hid (gl = got.length) := ⟨_, Lib.hid rfl⟩
  obtain ⟨wl, hwl⟩ : ∃ wl, RowKit.Hid (wl = wnt.length) := ⟨_, Lib.hid rfl⟩
  rw [← hgl.out, ← hwl.out] at G hsame
  rw [← hgl.out] at hc2 hc3
  rw [← hwl.out] at hc5
  rw [← hgl.out, ← hwl.out]
  go_wp2_with (first
    | (go_at_call 21; (with_reducible refine (hsame w5 A2 c2 A5 c5 G.out.2.1 hc2 G.out.2.2.2.1 hc5).mono ?_); rintro e w6 ⟨rfl, ⟨n6, rfl⟩⟩)
    | (go_at_call 21; (with_reducible refine (hsame _ A3 c3 A5 c5 (Kd.C_drewN G.out.2.2.1 _) hc3 (Kd.C_drewN G.out.2.2.2.1 _) hc5).mono ?_); rintro e w7 ⟨rfl, ⟨n7, rfl⟩⟩)
    | (go_at_call 22; (with_reducible refine (hkept (w5.drewN (n6 + n7)) A1 c1 (Kd.C_drewN G.out.2.2.2.2.1 _) F1.out.2.2.2 (Kd.C_drewN G.out.2.2.2.2.2.1 _) (G.out.2.2.2.2.2.2.below (pw_below_drewN (Below.refl _ _) _))).mono ?_); rintro e w8 ⟨rfl, hb8⟩))
  go_ret
  exact ⟨rfl, G.out.1.trans (((pw_below_drewN (Below.refl _ _) _).trans hb8).mono G.out.1.size)⟩
end Go.Proofs.YtijlanhhelichaaDoor.NormalsWalk
