/- How deep forms are: plain lists, no program in sight. -/
import Derived.Test.YtldjbgonlbmeaaaDoorKid
namespace Go.Proofs.YtldjbgonlbmeaaaDoor.T
def dk (i : Nat) (D : List Int) (k : Nat) : List Int := D.set i (max (D.getD i 0) (D.getD k 0))
def dstep (l : List Fm) (D : List Int) (i : Nat) : List Int :=
  if (l.getD i zFm).f0 = 1 then (((kd l i).foldl (dk i) D).set i (min (((kd l i).foldl (dk i) D).getD i 0 + 1) 13)) else D
def dps (l : List Fm) : Nat → List Int
  | 0 => List.replicate l.length 0
  | j + 1 => dstep l (dps l j) (l.length - 1 - j)
def dtop (n : Nat) (D : List Int) (m : Int) (t : Int) : Int := if 0 ≤ t ∧ t < (n : Int) then max m (D.getD t.toNat 0) else m
def depth (l : List Fm) (top : List Int) : Int := top.foldl (dtop l.length (dps l l.length)) 0
def Low (D : List Int) : Prop := ∀ i, 0 ≤ D.getD i 0 ∧ D.getD i 0 ≤ 13
theorem Low.set {D : List Int} (h : Low D) (i : Nat) {x : Int} (h0 : 0 ≤ x) (h1 : x ≤ 13) : Low (D.set i x) := fun j => by
  rw [List.getD_eq_getElem?_getD, List.getElem?_set]
  split
  · split
    · exact ⟨h0, h1⟩
    · simp
  · have := h j; rwa [List.getD_eq_getElem?_getD] at this
theorem Low.dk {D : List Int} (h : Low D) (i k : Nat) : Low (dk i D k) := h.set i (by have := h i; omega) (by have := h i; have := h k; omega)
theorem Low.fold {D : List Int} (h : Low D) (i : Nat) (ks : List Nat) : Low (ks.foldl (T.dk i) D) := by
  induction ks generalizing D with
  | nil => exact h
  | cons k ks ih => exact ih (h.dk i k)
theorem Low.dps (l : List Fm) : ∀ j, Low (dps l j)
  | 0 => fun i => by
    unfold T.dps
    rw [List.getD_eq_getElem?_getD, List.getElem?_replicate]
    split <;> simp
  | j + 1 => by
    unfold T.dps dstep
    split
    · have h := (Low.dps l j).fold (l.length - 1 - j) (kd l (l.length - 1 - j))
      exact h.set _ (by have := h (l.length - 1 - j); omega) (by omega)
    · exact Low.dps l j
theorem dk_len (i k : Nat) (D : List Int) : (dk i D k).length = D.length := by unfold dk; simp
theorem dk_lens (i : Nat) (ks : List Nat) (D : List Int) : (ks.foldl (dk i) D).length = D.length := by
  induction ks generalizing D with
  | nil => rfl
  | cons k ks ih => rw [List.foldl_cons, ih, dk_len]
theorem dps_len (l : List Fm) : ∀ j, (dps l j).length = l.length
  | 0 => by simp [dps]
  | j + 1 => by
    unfold dps dstep
    split
    · rw [List.length_set, dk_lens, dps_len l j]
    · exact dps_len l j
end Go.Proofs.YtldjbgonlbmeaaaDoor.T
