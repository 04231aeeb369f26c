/- What is proved: the search for a witness, in plain words: it finds one just if there is one. -/
import Derived.Test.YtbakmkoppieelaaLSeaB
namespace Go.Proofs.Ytbakmkoppieelaa.PLinearChecks
open Go.RowKit Go.Proofs.YtbakmkoppieelaaW.PrintWords Go.Proofs.YtbakmkoppieelaaW.PrintLast Go.Proofs.YtbakmkoppieelaaW.PrintMore
set_option linter.unusedVariables false
set_option linter.unusedSimpArgs false
/-! #### what stands under a key -/
structure SC where
  f0 : Bool
  f1 : ByteArray
  f2 : Int
  f3 : Int
  f4 : Int
def zC : SC := ⟨false, ⟨#[]⟩, 0, 0, 0⟩
def setF (c : SC) (v : Int) : SC × Bool :=
  if c.f0 = false then (c, v == 0) else if c.f2 > 0 then (c, c.f2 == v) else if v < wrap64 (c.f3 + c.f4) then (c, false) else (⟨true, c.f1, v, v, 0⟩, true)
def effF (c : SC) (t : Bool) (va : ByteArray) (n : Int) : SC × Bool :=
  if n = 0 then (⟨t, va, 0, c.f3, wrap64 (c.f4 + 1)⟩, true) else if n < wrap64 (wrap64 (c.f3 + c.f4) + 1) then (c, false) else (⟨t, va, n, n, 0⟩, true)
/-- What an update does whose number is n (0: not known). -/
def doF (c : SC) (x : S39) (n : Int) : SC × Bool :=
  if x.f4.f0 = 2 then (if c.f0 = false then (c, false) else effF c false ⟨#[]⟩ n)
  else if x.f4.f0 = 3 then (if (setF c x.f4.f3).2 = true then effF (setF c x.f4.f3).1 true x.f4.f2 n else ((setF c x.f4.f3).1, false))
  else effF c true x.f4.f2 n
def hapF (c : SC) (x : S39) : SC × Bool :=
  if x.f2 = true then
    (if x.f9 = false then (c, !c.f0) else if c.f0 = false then (c, false) else if c.f1.toList = x.f8.f1.toList then setF c x.f8.f2 else (c, false))
  else if ansB x = true then
    (if x.f7.f0 = 4 then (c, !c.f0) else if x.f7.f0 = 2 then (c, !c.f0) else if x.f7.f0 = 3 then setF c x.f7.f1 else doF c x x.f7.f1)
  else doF c x 0
/-- What stands under all keys. -/
def KF := List UInt8 → SC
def zK : KF := fun _ => zC
def updK (m : KF) (k : List UInt8) (c : SC) : KF := fun q => if q = k then c else m q
def cl (l : List S39) (i : Nat) : S39 := l.getD i z39
def kyF (l : List S39) (i : Nat) : List UInt8 := (cl l i).f3.toList
def rdyB (l : List S39) (o : List Nat) (i : Nat) : Bool := (List.range l.length).all fun k => o.contains k || !precB (cl l k) (cl l i)
/-- May a call be the next of an order? -/
def nxtB (l : List S39) (o : List Nat) (i : Nat) : Bool := !o.contains i && !((cl l i).f2 && !ansB (cl l i)) && rdyB l o i
def whlB (l : List S39) (o : List Nat) : Bool := (List.range l.length).all fun k => !ansB (cl l k) || o.contains k
/-- The search: the least first. -/
def goF (l : List S39) : Nat → List Nat → KF → Option (List Nat)
  | 0, o, _ => if whlB l o then some o else none
  | f + 1, o, m => if whlB l o then some o else (List.range l.length).findSome? fun i => if nxtB l o i && (hapF (m (kyF l i)) (cl l i)).2 then goF l f (o ++ [i]) (updK m (kyF l i) (hapF (m (kyF l i)) (cl l i)).1) else none
/-- A witness that goes on from an order. -/
def Wit (l : List S39) : List Nat → KF → List Nat → Prop
  | o, _, [] => whlB l o = true
  | o, m, i :: t => i < l.length ∧ nxtB l o i = true ∧ (hapF (m (kyF l i)) (cl l i)).2 = true ∧ Wit l (o ++ [i]) (updK m (kyF l i) (hapF (m (kyF l i)) (cl l i)).1) t
theorem go_wit (l : List S39) : ∀ (f : Nat) (o : List Nat) (m : KF) (r : List Nat), goF l f o m = some r → ∃ t, r = o ++ t ∧ t.length ≤ f ∧ Wit l o m t := by
  intro f
  induction f with
  | zero =>
    intro o m r h
    rw [goF] at h
    split at h
    · rename_i hw
      exact ⟨[], by simpa using h.symm, Nat.le_refl _, hw⟩
    · cases h
  | succ f ih =>
    intro o m r h
    rw [goF] at h
    split at h
    · rename_i hw
      exact ⟨[], by simpa using h.symm, Nat.zero_le _, hw⟩
    · obtain ⟨i, hi, hh⟩ := List.exists_of_findSome?_eq_some h
      split at hh
      · rename_i hc
        rw [Bool.and_eq_true] at hc
        obtain ⟨t, rfl, ht, hw⟩ := ih _ _ _ hh
        exact ⟨i :: t, by simp, by simp; omega, List.mem_range.mp hi, hc.1, hc.2, hw⟩
      · cases hh
theorem rdyB_iff {l : List S39} {o : List Nat} {i : Nat} : rdyB l o i = true ↔ ∀ k, k < l.length → k ∈ o ∨ precB (cl l k) (cl l i) = false := by
  unfold rdyB
  rw [List.all_eq_true]
  simp
theorem whlB_iff {l : List S39} {o : List Nat} : whlB l o = true ↔ ∀ k, k < l.length → ansB (cl l k) = true → k ∈ o := by
  unfold whlB
  rw [List.all_eq_true]
  simp only [List.mem_range, Bool.or_eq_true, Bool.not_eq_true', List.contains_iff_mem]
  constructor
  · intro h k hk ha
    rcases h k hk with q | q
    · rw [ha] at q; cases q
    · exact q
  · intro h k hk
    cases ha : ansB (cl l k) with
    | false => exact Or.inl rfl
    | true => exact Or.inr (h k hk ha)
theorem nxtB_iff {l : List S39} {o : List Nat} {i : Nat} : nxtB l o i = true ↔ i ∉ o ∧ ((cl l i).f2 = true → ansB (cl l i) = true) ∧ rdyB l o i = true := by
  unfold nxtB
  cases h : (cl l i).f2 <;> cases h2 : ansB (cl l i) <;> simp
theorem nodup_len : ∀ (n : Nat) (o : List Nat), o.Nodup → (∀ x ∈ o, x < n) → o.length ≤ n := by
  intro n
  induction n with
  | zero =>
    intro o _ h
    cases o with
    | nil => exact Nat.le_refl _
    | cons x t => exact absurd (h x (by simp)) (by omega)
  | succ n ih =>
    intro o hn h
    by_cases hm : n ∈ o
    · have h1 := ih (o.erase n) (hn.erase n) (fun x hx => by
        have h2 := (List.Nodup.mem_erase_iff hn).mp hx
        have h3 := h x h2.2
        have h4 := h2.1
        omega)
      have h2 := List.length_erase_of_mem hm
      omega
    · have h1 := ih o hn (fun x hx => by
        have h3 := h x hx
        have h4 : x ≠ n := fun e => hm (e ▸ hx)
        omega)
      omega
theorem rd_cl' (l : List S39) (i : Int) : rd_T39 l i = cl l i.toNat := rfl
end Go.Proofs.Ytbakmkoppieelaa.PLinearChecks
