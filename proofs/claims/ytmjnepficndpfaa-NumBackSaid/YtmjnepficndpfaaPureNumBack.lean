/- Sub takes Add back, and Div times b with Mod is a again, with Mod of the sign of a or 0, whatever the two numbers are. -/
import Derived.Test.YtmjnepficndpfaaPNx6
import Derived.Test.YtmjnepficndpfaaNumLib
namespace Go.Proofs.Ytmjnepficndpfaa.Pure
open Go.RowKit Go.Proofs.Ytmjnepficndpfaa.PN Go.Proofs.YtmjnepficndpfaaW.PrintWords Go.Proofs.YtmjnepficndpfaaW.PrintLast

theorem back (a b : Int) (ha : -9223372036854775808 ≤ a ∧ a ≤ 9223372036854775807) : wrap64 (wrap64 (a + b) - b) = a := by
  unfold wrap64; omega

theorem tmod_sign {a b : Int} (h : Int.tmod a b ≠ 0) : decide (Int.tmod a b < 0) = decide (a < 0) := by
  rcases Int.lt_or_le a 0 with h0 | h0
  · have := Int.tmod_nonneg b (a := -a) (by omega)
    rw [Int.neg_tmod] at this
    have h1 : Int.tmod a b < 0 := by omega
    rw [decide_eq_true h1, decide_eq_true h0]
  · have := Int.tmod_nonneg b h0
    rw [decide_eq_false (by omega), decide_eq_false (by omega)]

theorem NumBack : reticulelaw01_NumBack.Pure := by
  intro a b ha0 hb0
  have ha := rng ha0
  have hb := rng hb0
  refine ⟨30, ?_⟩
  unfold reticulelaw01_NumBack.f num_Add.f num_Sub.f num_Mul.f num_Div.f num_Mod.f
  by_cases h0 : b = 0
  · simp only [if_pos h0, live_yes, Option.bind_some, if_true]
    rw [back a b ha]; simp
  · by_cases h1 : b = -1
    · simp only [if_neg h0, if_pos h1, live_yes, Option.bind_some, if_true, back a b ha]
      subst h1
      have e : wrap64 (wrap64 (wrap64 (-a) * -1) + 0) = a := by unfold wrap64; omega
      rw [e]; simp
    · simp only [if_neg h0, if_neg h1, live_yes, Option.bind_some, if_true, back a b ha]
      have hd := tdiv_rng ha h1 h0
      have e := Int.tmod_add_mul_tdiv a b
      have e2 : wrap64 (wrap64 (wrap64 (Int.tdiv a b) * b) + Int.tmod a b) = a := by
        rw [mul_wrap, add_wrap, Int.mul_comm, Int.add_comm, e, wrap_id ha.1 ha.2]
      rw [e2, if_pos rfl]
      by_cases h2 : Int.tmod a b = 0
      · rw [if_pos h2]
      · rw [if_neg h2, tmod_sign h2]; simp

end Go.Proofs.Ytmjnepficndpfaa.Pure
