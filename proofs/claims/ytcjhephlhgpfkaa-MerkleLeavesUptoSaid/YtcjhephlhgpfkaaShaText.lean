/- What is proved: the contract of merkle.text: a text behind its length's bytes, appended; the conditions stand in the theorem. -/
import Derived.Test.YtcjhephlhgpfkaaLeb
import Derived.Test.YtcjhephlhgpfkaaRShaM
import Derived.Deep.DeepCutAuto
import Derived.Deep.CutBlock
namespace Go.Proofs.Ytcjhephlhgpfkaa.Sha
open Go.RowKit Go.Proofs.YtcjhephlhgpfkaaW.PrintWords Go.Proofs.YtcjhephlhgpfkaaW.PrintLast Go.Proofs.Ytcjhephlhgpfkaa.PMerkleLeaves
set_option linter.unusedVariables false
set_option linter.unusedSimpArgs false
def textB (s : ByteArray) : List Int := lebB s.size ++ bytesOf s
theorem gb_two {a b c : World} {o o' : Option Nat} (h1 : a.grownBy b o) (h2 : b.grownBy c o') (h : o' = o ∨ ∃ k, o' = some k ∧ a.heap.size ≤ k) : a.grownBy c o :=
  ⟨h2.os.trans h1.os, h2.tape.trans h1.tape, h2.output.trans h1.output, Nat.le_trans h1.size h2.size, fun k hk hne => (h2.block k (Nat.lt_of_lt_of_le hk h1.size) (by
    rcases h with h | ⟨q, h, hq⟩
    · rw [h]; exact hne
    · rw [h]; intro e; injection e with e; omega)).trans (h1.block k hk hne)⟩
theorem own_ne {w : World} {base n : Nat} {v : Value} {xs : List Int} {g t : Nat} {cs : Array Value} (h : w.ownsRow base 5 1 v n (nums .u8 xs)) (hg : w.heap[g]? = some (.cells cs t (0, 0))) (ht : t ≠ 5) : some g ≠ v.ownBlock := by
  intro e
  obtain ⟨cells, hc⟩ := own_typed h g e.symm
  rw [hc] at hg
  injection hg with hg
  injection hg with _ hg
  exact ht hg.symm
theorem reads_R {w : World} {base : Nat} {ok : Nat → Prop} {v : Value} {xs : List Int} (h : Kd.R (Kd.int .u8) 5 w base ok v xs) : ∃ A c, v = .slice A xs.length c ∧ xs.length ≤ c ∧ ReadsInt w .u8 A xs.length xs := by
  obtain ⟨A, c, h1, h2, h3⟩ := Kd.R_reads h
  exact ⟨A, c, h1, h2, readsInt_of.2 (Kd.reads_of_C (d := (0 : Int)) h3)⟩
theorem lit_C {k : IntKind} (w : World) (x : Int) (t : TypeId) : Kd.C (Kd.int k) (w.alloc (.cells #[.int k x] t)) (some ⟨w.heap.size, 0, none⟩) ([x] : List Int).length [x] := by
  refine Kd.C_of_reads (d := (0 : Int)) (readsInt_of.1 ⟨rfl, by simp, fun _ => ⟨_, rfl, fun j hj => ?_⟩⟩)
  obtain rfl : j = 0 := by simp at hj; exact hj
  exact cell_of_row _ w.heap.size 0 _ _ _ (heap_alloc_new w _)
set_option maxRecDepth 100000 in
set_option maxHeartbeats 8000000 in
theorem text_any (w0 w : World) (BB : Nat) (A : Option Addr) (c : Nat) (xs : List Int) (s : ByteArray) (hown : w.ownsRow BB 5 1 (.slice A xs.length c) xs.length (nums .u8 xs)) (hb : Below BB w0 w) (hbase : BB ≤ w.heap.size)
    (hs : s.size ≤ 9223372036854775807) (hlen : xs.length + s.size + 10 ≤ 140737488355328) :
    Calls Try.prog 14 #[.slice A xs.length c, .string s] w fun e w' => ∃ v', e = .returned v' ∧ w'.ownsRow BB 5 1 v' (xs ++ textB s).length (nums .u8 (xs ++ textB s)) ∧ Below BB w0 w' ∧ w.grownBy w' (Value.slice A xs.length c).ownBlock := by
  have hel := lebB_length s.size
  obtain ⟨E, hE⟩ : ∃ E, RowKit.Hid (E = lebB s.size) := ⟨_, Lib.hid rfl⟩
  rw [← hE.out] at hel
  have hee : leb_Encode.f 12 [(s.size : Int)] = some E := by rw [hE.out]; exact encode_law _ (by omega) (by omega)
  have wz : IntKind.u64.wrap (s.size : Int) = s.size := wrap_in (by omega)
  have HL := Lib.hid (And.intro hel (And.intro hlen hee))
  obtain ⟨n, hn⟩ : ∃ n, RowKit.Hid (n = xs.length) := ⟨_, Lib.hid rfl⟩
  have O1 : w.ownsRow BB 5 1 (.slice A n c) xs.length (nums .u8 xs) := by rw [hn.out]; exact hown
  have F := Lib.hid (And.intro O1 (And.intro hb hbase))
  rw [← hn.out]
  clear hown hb hbase O1
  have eT : RowKit.Hid (xs ++ E ++ bytesOf s = xs ++ textB s) := Lib.hid (by unfold textB; rw [hE.out, List.append_assoc])
  rw [← eT.out]
  go_enter Try.func14, Try.ntmps14
  go_wp2_with (first
    | (go_at_call 15; refine (leb_Encode.calls 12 (some ⟨w.heap.size, 0, none⟩) 1 [(s.size : Int)] E _ (lit_C w _ 43) (by simp) HL.out.2.2).mono ?_; rintro e w2 ⟨v2, rfl, hR2, hb2⟩; obtain ⟨A2, c2, rfl, hc2, hr2⟩ := reads_R hR2; have bw2 : Below w.heap.size w w2 := ((Below.refl _ _).alloc (Nat.le_refl _) _).trans (hb2.mono (by rw [World.size_alloc]; omega)))
    | (at_builtin; refine print_append_row (w0 := w0) BB rfl (.tmp 5) (.tmp 10) 37 5 .u8 1 rfl Try.underlying37 info5 (by omega) (.slice A n c) xs E A2 E.length c2 rfl rfl (pw_own_below F.out.1 bw2) hr2 (F.out.2.1.trans (bw2.mono F.out.2.2)) (Nat.le_trans F.out.2.2 bw2.size) (by have := HL.out.1; have := HL.out.2.1; omega) ?_; intro v6 w6 hown6 hb6 hg6 hat6)
    | (at_builtin; refine print_append_str (w0 := w0) BB rfl (.tmp 11) (.tmp 12) 37 9 5 rfl Try.underlying37 Try.underlying9 info5 v6 (xs ++ E) s rfl rfl hown6 hb6 (Nat.le_trans F.out.2.2 (Nat.le_trans bw2.size hg6.size)) (by have := HL.out.1; have := HL.out.2.1; rw [List.length_append]; omega) ?_; intro v7 w7 hown7 hb7 hg7))
  go_ret
  refine ⟨_, rfl, hown7, hb7, gb_two (gb_two (gb_below (gb_refl w _) bw2 (Nat.le_refl _)) hg6 (.inl rfl)) hg7 ?_⟩
  rcases hat6 with h | ⟨b, h, hb⟩
  · exact .inl h
  · exact .inr ⟨b, h, Nat.le_trans bw2.size hb⟩
end Go.Proofs.Ytcjhephlhgpfkaa.Sha
