/- An operation of some numbers, of how many it is, and whether it takes in many, are those of the reference, whatever the operation and the numbers are. -/
import Derived.Test.YtmjnepficndpfaaDoesLib
namespace Go.Proofs.Ytmjnepficndpfaa.Pure
open Go.RowKit Go.Proofs.Ytmjnepficndpfaa.PD Go.Proofs.YtmjnepficndpfaaW.PrintWords Go.Proofs.YtmjnepficndpfaaW.PrintLast Go.Proofs.YtmjnepficndpfaaW.PrintMore

/-- Of how many an operation is. -/
def ar (o : Int) : Int := if o = 0 ∨ o > 19 then 0 else if o = 15 then 1 else if o = 18 then 3 else 2

theorem arity_a (k : Nat) (o : Int) : num_Arity.f (k + 1) o = some (ar o) := by
  unfold num_Arity.f ar
  simp only [num_Arity.j0]
  by_cases h0 : o = 0
  · subst h0; rfl
  · by_cases h1 : o > 19
    · rw [if_neg h0, if_pos (decide_eq_true h1), if_pos (Or.inr h1)]
    · rw [if_neg h0, decide_eq_false h1, if_neg (by decide), if_neg (show ¬ (o = 0 ∨ o > 19) from fun h => h.elim h0 h1)]
      (repeat' split) <;> rfl
theorem arity_b (k : Nat) (o : Int) : reticuleref01_Arity.f (k + 1) o = some (ar o) := by
  unfold reticuleref01_Arity.f ar
  simp only [reticuleref01_Arity.j0]
  by_cases h0 : o = 0
  · subst h0; rfl
  · by_cases h1 : o > 19
    · rw [if_neg h0, if_pos (decide_eq_true h1), if_pos (Or.inr h1)]
    · rw [if_neg h0, decide_eq_false h1, if_neg (by decide), if_neg (show ¬ (o = 0 ∨ o > 19) from fun h => h.elim h0 h1)]
      (repeat' split) <;> rfl
theorem reduces_same (k : Nat) (o : Int) : reticuleref01_Reduces.f (k + 1) o = num_Reduces.f (k + 1) o ∧ ∃ r, num_Reduces.f (k + 1) o = some r := by
  unfold num_Reduces.f reticuleref01_Reduces.f
  simp only [num_Reduces.j0, reticuleref01_Reduces.j0]
  by_cases h1 : o = 1
  · subst h1; exact ⟨rfl, _, rfl⟩
  · rw [if_neg h1, if_neg h1]
    by_cases h2 : o = 17
    · subst h2; exact ⟨rfl, _, rfl⟩
    · rw [beq_eq_false_iff_ne.2 h2, if_neg Bool.false_ne_true, if_neg Bool.false_ne_true]
      by_cases h3 : o = 16
      · subst h3; exact ⟨rfl, _, rfl⟩
      · rw [if_neg h3, if_neg h3]
        by_cases h4 : o = 6
        · subst h4; exact ⟨rfl, _, rfl⟩
        · rw [if_neg h4]
          by_cases h5 : o = 7
          · subst h5; exact ⟨rfl, _, rfl⟩
          · rw [if_neg h5]; exact ⟨rfl, _, rfl⟩

theorem two (x y : Int) : (([x, y] : List Int).length : Int) = 2 := rfl
theorem one_ : wrap64 ((2 : Int) - 1) = 1 := by unfold wrap64; decide
theorem lst (x y : Int) : rd [x, y] 1 = y := rfl
theorem fst_ (x : Int) (l : List Int) : rd (x :: l) 0 = x := rfl

theorem do_two (k : Nat) (o x y : Int) (hx : -9223372036854775808 ≤ x ∧ x ≤ 9223372036854775807) (hk : 100 ≤ k) (ho : ar o = 2) (h0 : 0 ≤ o) : reticuleref01_Do.f k o [x, y] = num_Do.f k o [x, y] ∧ ∃ r, num_Do.f k o [x, y] = some r := by
  obtain ⟨n, hn, e⟩ := count64 y
  have g1 : num_Shl.f x y = some (wrap64 (x * 2 ^ n)) := by
    unfold num_Shl.f shl
    rw [e, if_pos (by omega), Int.toNat_natCast, Nat.min_eq_left (by show n ≤ 64; omega), i64_w]
  have g2 : reticuleref01_Shl.f k x y = some (wrap64 (x * 2 ^ n)) := by
    unfold reticuleref01_Shl.f
    rw [e]; exact shl_l0 n k x (by omega) (by omega) hx.1 hx.2
  have g3 : num_Shr.f x y = some (x / 2 ^ n) := by
    unfold num_Shr.f shr
    rw [e, if_pos (by omega), Int.toNat_natCast, Nat.min_eq_left (by show n ≤ 64; omega)]
  have g4 : reticuleref01_Shr.f k x y = some (x / 2 ^ n) := by
    unfold reticuleref01_Shr.f
    rw [e]; exact shr_l0 n k x (by omega) (by omega) hx.1 hx.2
  obtain ⟨d1, e1⟩ : ∃ d, num_Narrow.f x y = some d := by unfold num_Narrow.f; (repeat' split) <;> exact ⟨_, rfl⟩
  have e1r : reticuleref01_Narrow.f k x y = some d1 := LeO_le (reticuleref01_Narrow.mono x y) (show 40 ≤ k by omega) ((narrow_any x y).trans e1)
  obtain ⟨d2, e2⟩ : ∃ d, num_Div.f x y = some d := by unfold num_Div.f; (repeat' split) <;> exact ⟨_, rfl⟩
  obtain ⟨d3, e3⟩ : ∃ d, num_Mod.f x y = some d := by unfold num_Mod.f; (repeat' split) <;> exact ⟨_, rfl⟩
  obtain ⟨k, rfl⟩ : ∃ m, k = m + 1 := ⟨k - 1, by omega⟩
  unfold num_Do.f reticuleref01_Do.f reticuleref01_truths.f
  rw [arity_a, arity_b, ho]
  simp only [Option.bind_some, two, one_, lst, fst_]
  have cases : o = 1 ∨ o = 2 ∨ o = 3 ∨ o = 4 ∨ o = 5 ∨ o = 6 ∨ o = 7 ∨ o = 8 ∨ o = 9 ∨ o = 10 ∨ o = 11 ∨ o = 12 ∨ o = 13 ∨ o = 14 ∨ o = 16 ∨ o = 17 ∨ o = 19 := by
    unfold ar at ho
    by_cases a1 : o = 0 ∨ o > 19
    · rw [if_pos a1] at ho; omega
    · by_cases a2 : o = 15
      · rw [if_neg a1, if_pos a2] at ho; omega
      · by_cases a3 : o = 18
        · rw [if_neg a1, if_neg a2, if_pos a3] at ho; omega
        · omega
  rcases cases with rfl | rfl | rfl | rfl | rfl | rfl | rfl | rfl | rfl | rfl | rfl | rfl | rfl | rfl | rfl | rfl | rfl
  all_goals simp [num_reckon.f, ref_add, ref_sub, ref_mul, ref_div, ref_mod _ hx, num_told.f, reticuleref01_truth.f, num_Truth.f, reticuleref01_Truth.f, g1, g2, g3, g4, e1, e1r, e2, e3, mn, mx]
  all_goals (by_cases hc : x < y <;> (repeat' split) <;> simp_all <;> first | omega | (have hq := of_decide_eq_true (p := x < y) (by assumption); omega))

theorem do_same (k : Nat) (o : Int) (l : List Int) (hl : ∀ x ∈ l, -9223372036854775808 ≤ x ∧ x ≤ 9223372036854775807) (hk : 100 ≤ k) (h0 : 0 ≤ o) : reticuleref01_Do.f k o l = num_Do.f k o l ∧ ∃ r, num_Do.f k o l = some r := by
  by_cases h2 : ar o = 2 ∧ l.length = 2
  · obtain ⟨a2, b2⟩ := h2
    match l, b2 with
    | [x, y], _ => exact do_two k o x y (hl x (by simp)) hk a2 h0
  · obtain ⟨k, rfl⟩ : ∃ m, k = m + 1 := ⟨k - 1, by omega⟩
    by_cases h3 : ar o = 0
    · unfold num_Do.f reticuleref01_Do.f
      rw [arity_a, arity_b, h3]
      simp only [Option.bind_some, if_true]
      exact ⟨trivial, _, rfl⟩
    · by_cases h4 : ar o = (l.length : Int)
      · have h5 : o = 15 ∨ o = 18 := by
          have h6 : ar o ≠ 2 := fun h => h2 ⟨h, by omega⟩
          unfold ar at h6 h3
          by_cases a1 : o = 0 ∨ o > 19
          · rw [if_pos a1] at h3; omega
          · by_cases a2 : o = 15
            · exact Or.inl a2
            · by_cases a3 : o = 18
              · exact Or.inr a3
              · rw [if_neg a1, if_neg a2, if_neg a3] at h6; omega
        rcases h5 with rfl | rfl
        · have h7 : l.length = 1 := by have : ar 15 = 1 := by decide
                                       omega
          match l, h7 with
          | [x], _ =>
            unfold num_Do.f reticuleref01_Do.f reticuleref01_truths.f
            rw [arity_a, arity_b, show ar 15 = 1 from by decide]
            have q1 : (([x] : List Int).length : Int) = 1 := rfl
            have q2 : wrap64 ((1 : Int) - 1) = 0 := by unfold wrap64; decide
            simp only [Option.bind_some, q1, q2, fst_]
            simp [num_told.f, reticuleref01_truth.f, num_Truth.f, reticuleref01_Truth.f]
            by_cases hx : x = 0 <;> simp [hx]
        · have h7 : l.length = 3 := by have : ar 18 = 3 := by decide
                                       omega
          match l, h7 with
          | [x, y, z], _ =>
            unfold num_Do.f reticuleref01_Do.f reticuleref01_truths.f
            rw [arity_a, arity_b, show ar 18 = 3 from by decide]
            have q1 : (([x, y, z] : List Int).length : Int) = 3 := rfl
            have q2 : wrap64 ((3 : Int) - 1) = 2 := by unfold wrap64; decide
            have q3 : rd [x, y, z] 1 = y := rfl
            have q4 : rd [x, y, z] 2 = z := rfl
            simp only [Option.bind_some, q1, q2, q3, q4, fst_]
            simp [num_reckon.f, num_Truth.f, reticuleref01_Truth.f]
            by_cases hx : x = 0 <;> simp [hx]
      · unfold num_Do.f reticuleref01_Do.f
        rw [arity_a, arity_b]
        simp only [Option.bind_some]
        rw [if_neg h3, if_neg h3, if_neg h4, if_neg (fun h => h4 h.symm)]
        exact ⟨rfl, _, rfl⟩

theorem NumDoes : reticulelaw01_NumDoes.Pure := by
  intro o l ho _ _ hl
  have h0 : 0 ≤ o := by
    have h1 : IntKind.u8.min = 0 := by decide
    simp [Lit.wf, h1] at ho
    omega
  refine ⟨100, ?_⟩
  obtain ⟨m, hm, hw⟩ : ∃ m, reticulelaw01_few.f l = some m ∧ ∀ x ∈ m, x ∈ l := by
    unfold reticulelaw01_few.f
    by_cases h1 : (l.length : Int) > 20
    · rw [if_pos h1, if_pos (by omega)]
      exact ⟨_, rfl, fun x hx => List.mem_of_mem_take hx⟩
    · rw [if_neg h1]; exact ⟨_, rfl, fun x hx => hx⟩
  obtain ⟨d, r, hr⟩ := do_same 100 o m (fun x hx => rng (hl x (hw x hx))) (by decide) h0
  obtain ⟨d2, r2, hr2⟩ := reduces_same 99 o
  unfold reticulelaw01_NumDoes.f
  rw [hm]
  simp only [Option.bind_some, d, hr, d2, hr2, live_from (show 30 ≤ 100 by decide), if_true, arity_a 99, arity_b 99, beq_self_eq_true]
  cases m with
  | nil => rfl
  | cons x m =>
    rw [if_neg (by simp; omega), if_pos (by simp)]
    simp [num_Truth.f]

end Go.Proofs.Ytmjnepficndpfaa.Pure
