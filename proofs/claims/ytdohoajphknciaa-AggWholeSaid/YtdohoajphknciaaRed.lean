/- What the operations that take in many do. -/
import Derived.Test.YtdohoajphknciaaPTx3
namespace Go.Proofs.Ytdohoajphknciaa.Pure
open Go.RowKit Go.Proofs.Ytdohoajphknciaa.PT Go.Proofs.Ytdohoajphknciaa.Perm Go.Proofs.YtdohoajphknciaaW.PrintWords Go.Proofs.YtdohoajphknciaaW.PrintLast Go.Proofs.YtdohoajphknciaaW.PrintMore

theorem LeO_le {α : Type} {F : Nat → Option α} (h : ∀ k, LeO (F k) (F (k + 1))) {a b : Nat} (hab : a ≤ b) {r : α} (hr : F a = some r) : F b = some r := by
  induction b with
  | zero => obtain rfl : a = 0 := by omega
            exact hr
  | succ b ih =>
    by_cases e : a = b + 1
    · rw [← e]; exact hr
    · exact h b r (ih (by omega))

/-- Of how many an operation is. -/
def ar (o : Int) : Int := if o = 0 ∨ o > 19 then 0 else if o = 15 then 1 else if o = 18 then 3 else 2

theorem arity_a (k : Nat) (o : Int) : num_Arity.f (k + 1) o = some (ar o) := by
  unfold num_Arity.f ar
  simp only [num_Arity.j0]
  by_cases h0 : o = 0
  · subst h0; rfl
  · by_cases h1 : o > 19
    · rw [if_neg h0, if_pos (decide_eq_true h1), if_pos (Or.inr h1)]
    · rw [if_neg h0, decide_eq_false h1, if_neg (by decide), if_neg (show ¬ (o = 0 ∨ o > 19) from fun h => h.elim h0 h1)]
      (repeat' split) <;> rfl

theorem two (x y : Int) : (([x, y] : List Int).length : Int) = 2 := rfl
theorem lst (x y : Int) : rd [x, y] 1 = y := rfl
theorem fst_ (x : Int) (l : List Int) : rd (x :: l) 0 = x := rfl

/-- What an operation that takes in many does. -/
def red (o x y : Int) : Int := if o = 1 then wrap64 (x + y) else if o = 6 then (if y < x then y else x) else if o = 7 then (if x < y then y else x) else if o = 16 then (if x = 0 ∨ y = 0 then 0 else 1) else (if x = 0 ∧ y = 0 then 0 else 1)
/-- Those that do. -/
def takes (o : Int) : Prop := o = 1 ∨ o = 6 ∨ o = 7 ∨ o = 16 ∨ o = 17

theorem do_red {o : Int} (ho : takes o) (k : Nat) (x y : Int) : num_Do.f (k + 1) o [x, y] = some (red o x y, 0) := by
  unfold num_Do.f
  have ha : ar o = 2 := by rcases ho with rfl | rfl | rfl | rfl | rfl <;> decide
  rw [arity_a, ha]
  simp only [Option.bind_some, two, lst, fst_]
  rcases ho with rfl | rfl | rfl | rfl | rfl
  · simp [num_reckon.f, red]
  · simp [num_reckon.f, red, mn]
  · simp [num_reckon.f, red, mx]
  · simp [num_reckon.f, num_told.f, num_Truth.f, red]
    by_cases hx : x = 0 <;> by_cases hy : y = 0 <;> simp [hx, hy]
  · simp [num_reckon.f, num_told.f, num_Truth.f, red]
    by_cases hx : x = 0 <;> by_cases hy : y = 0 <;> simp [hx, hy]

theorem red_comm {o : Int} (ho : takes o) (a x y : Int) : red o (red o a x) y = red o (red o a y) x := by
  rcases ho with rfl | rfl | rfl | rfl | rfl <;> simp only [red]
  · simp; unfold wrap64; omega
  · simp; (repeat' split) <;> omega
  · simp; (repeat' split) <;> omega
  · simp; by_cases ha : a = 0 <;> by_cases hx : x = 0 <;> by_cases hy : y = 0 <;> simp [ha, hx, hy]
  · simp; by_cases ha : a = 0 <;> by_cases hx : x = 0 <;> by_cases hy : y = 0 <;> simp [ha, hx, hy]

theorem red_of (k : Nat) (o f : Int) (h : num_Reduces.f (k + 1) o = some (f, true)) : takes o := by
  unfold num_Reduces.f at h
  simp only [num_Reduces.j0] at h
  unfold takes
  by_cases h1 : o = 1
  · omega
  · rw [if_neg h1] at h
    by_cases h2 : o = 17
    · omega
    · rw [beq_eq_false_iff_ne.2 h2, if_neg Bool.false_ne_true] at h
      by_cases h3 : o = 16
      · omega
      · rw [if_neg h3] at h
        by_cases h4 : o = 6
        · omega
        · rw [if_neg h4] at h
          by_cases h5 : o = 7
          · omega
          · rw [if_neg h5] at h; simp at h

theorem reduces_some (k : Nat) (o : Int) : ∃ f b, num_Reduces.f (k + 1) o = some (f, b) := by
  unfold num_Reduces.f
  simp only [num_Reduces.j0]
  (repeat' split) <;> exact ⟨_, _, rfl⟩

theorem wrap_one (i : Nat) (h : i < 100) : wrap64 ((i : Int) + 1) = ((i + 1 : Nat) : Int) := by unfold wrap64; omega

end Go.Proofs.Ytdohoajphknciaa.Pure
