/- What is proved: plain words for the run of the search. -/
import Derived.Test.YtbakmkoppieelaaLSeaS
namespace Go.Proofs.Ytbakmkoppieelaa.PLinearChecks
open Go.RowKit Go.Proofs.YtbakmkoppieelaaW.PrintWords Go.Proofs.YtbakmkoppieelaaW.PrintLast Go.Proofs.YtbakmkoppieelaaW.PrintMore
set_option linter.unusedVariables false
set_option linter.unusedSimpArgs false
def Tc (L : Nat) : Nat → Nat
  | 0 => 0
  | f + 1 => L * (Tc L f + 2)
def tryF (l : List S39) (f : Nat) (o : List Nat) (m : KF) (i : Nat) : Option (List Nat) := if nxtB l o i && (hapF (m (kyF l i)) (cl l i)).2 then goF l f (o ++ [i]) (updK m (kyF l i) (hapF (m (kyF l i)) (cl l i)).1) else none
theorem go_one {l : List S39} {f : Nat} {o : List Nat} {m : KF} (h : whlB l o = false) : goF l (f + 1) o m = (List.range l.length).findSome? (tryF l f o m) := by
  rw [goF, if_neg (by rw [h]; decide)]
  rfl
theorem go_none {l : List S39} {f : Nat} {o : List Nat} {m : KF} (h : whlB l o = false) (hj : ∀ j : Nat, (j : Int) < l.length → tryF l f o m j = none) : goF l (f + 1) o m = none := by
  rw [go_one h, List.findSome?_eq_none_iff]
  intro j hm
  exact hj j (by have := List.mem_range.mp hm; omega)
theorem find_at {α : Type} (g : Nat → Option α) (i : Nat) (r : α) (h : g i = some r) : ∀ n, i < n → (∀ j, j < i → g j = none) → (List.range n).findSome? g = some r := by
  intro n
  induction n with
  | zero => intro h1; omega
  | succ n ih =>
    intro h1 h2
    rw [List.range_succ, List.findSome?_append]
    by_cases e : i = n
    · subst e
      have h3 : (List.range i).findSome? g = none := by
        rw [List.findSome?_eq_none_iff]
        intro j hj
        exact h2 j (List.mem_range.mp hj)
      rw [h3]
      simp [h]
    · rw [ih (by omega) h2]
      rfl
theorem go_some {l : List S39} {f : Nat} {o : List Nat} {m : KF} {i : Nat} {r : List Nat} (h : whlB l o = false) (hi : i < l.length) (hj : ∀ j : Nat, (j : Int) < i → tryF l f o m j = none) (hr : tryF l f o m i = some r) : goF l (f + 1) o m = some r := by
  rw [go_one h]
  exact find_at _ i r hr _ hi (fun j hji => hj j (by omega))
theorem go_whole {l : List S39} {f : Nat} {o : List Nat} {m : KF} (h : whlB l o = true) : goF l f o m = some o := by
  cases f <;> simp [goF, h]
theorem try_no {l : List S39} {f : Nat} {o : List Nat} {m : KF} {i : Nat} (h : nxtB l o i = false) : tryF l f o m i = none := by unfold tryF; rw [h]; rfl
theorem try_bad {l : List S39} {f : Nat} {o : List Nat} {m : KF} {i : Nat} (h : (hapF (m (kyF l i)) (cl l i)).2 = false) : tryF l f o m i = none := by unfold tryF; rw [h, Bool.and_false]; rfl
theorem try_go {l : List S39} {f : Nat} {o : List Nat} {m : KF} {i : Nat} (h : nxtB l o i = true) (h2 : (hapF (m (kyF l i)) (cl l i)).2 = true) : tryF l f o m i = goF l f (o ++ [i]) (updK m (kyF l i) (hapF (m (kyF l i)) (cl l i)).1) := by unfold tryF; rw [h, h2]; rfl
theorem upd_back (m : KF) (k : List UInt8) (c : SC) : updK (updK m k c) k (m k) = m := by
  funext q
  unfold updK
  split
  · rename_i e; rw [e]
  · rfl
/-- The whole order has all. -/
theorem whole_all {l : List S39} {o : List Nat} (hn : o.Nodup) (hx : ∀ x ∈ o, x < l.length) (hl : l.length ≤ o.length) : whlB l o = true := by
  rw [whlB_iff]
  intro k hk _
  false_or_by_contra
  rename_i h
  have := nodup_len l.length (k :: o) (List.nodup_cons.mpr ⟨h, hn⟩) (fun x hxx => by
    rcases List.mem_cons.mp hxx with e | e
    · omega
    · exact hx x e)
  simp at this
  omega
theorem nxt_nodup {l : List S39} {o : List Nat} {i : Nat} (hn : o.Nodup) (h : nxtB l o i = true) : (o ++ [i]).Nodup :=
  List.nodup_append.mpr ⟨hn, by simp, fun a ha b hb => by
    have hb := List.mem_singleton.mp hb
    subst hb
    exact fun e => (nxtB_iff.mp h).1 (e ▸ ha)⟩
theorem nxt_lt {l : List S39} {o : List Nat} {i : Nat} (hx : ∀ x ∈ o, x < l.length) (hi : i < l.length) : ∀ x ∈ o ++ [i], x < l.length := fun x hxx => by
  rcases List.mem_append.mp hxx with e | e
  · exact hx x e
  · have e := List.mem_singleton.mp e
    omega
/-- What a run of the search leaves: a witness, or all as it was. -/
def RunTo (w0 : World) (A : Option Addr) (c : Nat) (l : List S39) (p bi bm : Nat) (w : World) (n f : Nat) (o : List Nat) (m : KF) (v : Value) (e : Ending) (w' : World) : Prop :=
  (∃ r v' n' m', goF l f o m = some r ∧ e = .returned (.bool true) ∧ St w0 A c l p bi bm w' r n' m' v' ∧ Keep (Xs p bi bm v) w w') ∨
  (goF l f o m = none ∧ e = .returned (.bool false) ∧ ∃ v' n', n' ≤ n + Tc l.length f ∧ St w0 A c l p bi bm w' o n' m v' ∧ Keep (Xs p bi bm v) w w' ∧ NewB w v v')
theorem St.lt {w0 : World} {A : Option Addr} {c : Nat} {l : List S39} {p bi bm : Nat} {w : World} {o : List Nat} {n : Nat} {m : KF} {v : Value} (h : St w0 A c l p bi bm w o n m v) {k : Nat} (hk : Xs p bi bm v k) : w0.heap.size ≤ k ∧ k < w.heap.size := by
  rcases hk with e | e | e | e
  · subst e; exact ⟨h.bp, blk_lt h.hp⟩
  · subst e; exact ⟨h.bbi, blk_lt h.hi⟩
  · subst e; exact ⟨h.bbm, h.hm.lt⟩
  · exact h.ho.lt k e
theorem St.map {w0 : World} {A : Option Addr} {c : Nat} {l : List S39} {p bi bm : Nat} {w w' : World} {o : List Nat} {n k : Nat} {m m' : KF} {v : Value} (h : St w0 A c l p bi bm w o n m v) (hk : Keep (· = bm) w w') (hm : MapK w' bm k m') : St w0 A c l p bi bm w' o k m' v := by
  have hs : ∀ g, g < w.heap.size → g ≠ bm → w'.heap[g]? = w.heap[g]? := fun g hg hne => hk.block g hg hne
  refine ⟨(hs p (blk_lt h.hp) h.npm).trans h.hp, (hs bi (blk_lt h.hi) h.nim).trans h.hi, hm, ?_, ?_, h.npi, h.npm, h.nim, h.bp, h.bbi, h.bbm, h.nv⟩
  · exact ⟨hk.os.trans h.hb.os, hk.tape.trans h.hb.tape, hk.output.trans h.hb.output, Nat.le_trans h.hb.size hk.size, fun g hg => (hs g (Nat.lt_of_lt_of_le hg h.hb.size) (by have := h.bbm; omega)).trans (h.hb.block g hg)⟩
  · exact h.ho.kept hk.grownB (by cases hv : v.ownBlock with | none => exact Or.inl rfl | some g => exact Or.inr (fun e => (h.nv g hv).2.2 (by injection e)))
/-- A block of one's own stays. -/
theorem Keep.blk {X : Nat → Prop} {w w' : World} {g : Nat} {ob : Obj} (h : Keep X w w') (hb : w.heap[g]? = some ob) (hx : ¬ X g) : w'.heap[g]? = some ob := (h.block g (blk_lt hb) hx).trans hb
theorem xs_new {p bi bm : Nat} {w : World} {v v' : Value} {k : Nat} (h : NewB w v v') (hk : k < w.heap.size) (hx : Xs p bi bm v' k) : Xs p bi bm v k := by
  rcases hx with e | e | e | e
  · exact Or.inl e
  · exact Or.inr (Or.inl e)
  · exact Or.inr (Or.inr (Or.inl e))
  · rcases h k e with q | q
    · exact Or.inr (Or.inr (Or.inr q))
    · omega
theorem Keep.xs {p bi bm : Nat} {a b c : World} {v v' : Value} (h : Keep (Xs p bi bm v) a b) (hn : NewB a v v') (g : Keep (Xs p bi bm v') b c) : Keep (Xs p bi bm v) a c :=
  ⟨g.os.trans h.os, g.tape.trans h.tape, g.output.trans h.output, Nat.le_trans h.size g.size, fun k hk hx => (g.block k (Nat.lt_of_lt_of_le hk h.size) (fun e => hx (xs_new hn hk e))).trans (h.block k hk hx)⟩
theorem NewB.trans {a b : World} {v v' v'' : Value} (h : NewB a v v') (hs : a.heap.size ≤ b.heap.size) (g : NewB b v' v'') : NewB a v v'' := fun k hk => by
  rcases g k hk with e | e
  · exact h k e
  · exact Or.inr (Nat.le_trans hs e)
theorem NewB.refl (w : World) (v : Value) : NewB w v v := fun _ hk => Or.inl hk
theorem keep_map {p bi bm : Nat} {a b c : World} {v : Value} (h : Keep (Xs p bi bm v) a b) (g : Keep (· = bm) b c) : Keep (Xs p bi bm v) a c := h.trans (g.imp (fun k _ e => Or.inr (Or.inr (Or.inl e))))
open Go.Maps in
theorem wp_update_cell {w : World} {o : Oper} {a : Act} {K : Act → World → Prop} {Q : Exit → Act → World → Prop} (m x v : Operand) (hop : o.op = Op.mapUpdate 127 m x v) (b n : Nat) (κ : KF) (hm : a.eval m = .map (some b)) (hown : MapK w b n κ) (hn : n < maxLen) (key : ByteArray) (c : SC) (hx : a.eval x = .string key) (hv : a.eval v = cellV c) (hs : key.size ≤ maxLen)
    (hK : ∀ w', MapK w' b (n + 1) (updK κ key.toList c) → w.grownBy w' (some b) → K (a.put o.dst undef) w') : o.wp Try.prog a w K Q := by
  obtain ⟨D, h1, h2⟩ := hown
  obtain ⟨w', hrun, hw, hgr⟩ := h1.update law9 Try.underlying127 hn (key9 hs) (cellE_mk c)
  unfold Oper.wp execOp
  simp only [hop, hm, hx, hv, Sem.run_bind, hrun, Sem.run_pure, Result.andThen_ok]
  refine hK w' ⟨_, hw, fun k => ?_⟩ hgr
  unfold updK
  rw [ByteArray.toList_eq]
  by_cases e : k = key.data.toList
  · subst e
    rw [if_pos rfl, atKey_put_same h1.isMap (by trivial)]
  · rw [if_neg e, atKey_put_other (by intro h; injection h with h; exact e h)]
    exact h2 k
end Go.Proofs.Ytbakmkoppieelaa.PLinearChecks
