/- Numbers that go round: plain arithmetic for the laws of num. -/
import Derived.Test.YtmjnepficndpfaaPNx3
import Derived.Laws.Bits64
namespace Go.Proofs.Ytmjnepficndpfaa.Pure
open Go.RowKit Go.Proofs.Ytmjnepficndpfaa.PN Go.Proofs.YtmjnepficndpfaaW.PrintWords Go.Proofs.YtmjnepficndpfaaW.PrintLast Go.Proofs.YtmjnepficndpfaaW.PrintMore Go.Proofs.Ytmjnepficndpfaa.Dig

theorem live_yes : reticulelaw01_live.f 30 = some true := by decide +kernel

theorem LeO_le {α : Type} {F : Nat → Option α} (h : ∀ k, LeO (F k) (F (k + 1))) {a b : Nat} (hab : a ≤ b) {r : α} (hr : F a = some r) : F b = some r := by
  induction b with
  | zero => obtain rfl : a = 0 := by omega
            exact hr
  | succ b ih =>
    by_cases e : a = b + 1
    · rw [← e]; exact hr
    · exact h b r (ih (by omega))

theorem live_from {k : Nat} (h : 30 ≤ k) : reticulelaw01_live.f k = some true := LeO_le reticulelaw01_live.mono h live_yes

theorem wrap_congr {x y : Int} (h : x % 18446744073709551616 = y % 18446744073709551616) : wrap64 x = wrap64 y := by
  unfold wrap64; omega
theorem wrap_mod (x : Int) : wrap64 x % 18446744073709551616 = x % 18446744073709551616 := by
  unfold wrap64; omega
theorem wrap_id {x : Int} (h0 : -9223372036854775808 ≤ x) (h1 : x ≤ 9223372036854775807) : wrap64 x = x := by
  unfold wrap64; omega
theorem wrap_rng (x : Int) : -9223372036854775808 ≤ wrap64 x ∧ wrap64 x ≤ 9223372036854775807 := by
  unfold wrap64; omega
theorem u_mod (x : Int) : IntKind.u64.wrap x = x % 18446744073709551616 := IntKind.wrap_u64 x
theorem rng {a : Int} (h : (Lit.int .i64 a).wf = true) : -9223372036854775808 ≤ a ∧ a ≤ 9223372036854775807 := by
  have h1 : IntKind.i64.min = -9223372036854775808 := by decide
  have h2 : IntKind.i64.max = 9223372036854775807 := by decide
  simp [Lit.wf, h1, h2] at h
  omega

theorem mul_wrap (x y : Int) : wrap64 (wrap64 x * y) = wrap64 (x * y) := by
  apply wrap_congr; rw [Int.mul_emod, wrap_mod, ← Int.mul_emod]
theorem add_wrap (x y : Int) : wrap64 (wrap64 x + y) = wrap64 (x + y) := by
  apply wrap_congr; rw [Int.add_emod, wrap_mod, ← Int.add_emod]

theorem ref_add (a b : Int) : reticuleref01_Add.f a b = some (wrap64 (a + b)) := by
  unfold reticuleref01_Add.f; rw [u_mod, u_mod, u_mod]; congr 1; apply wrap_congr; omega

theorem tdiv_rng {a b : Int} (ha : -9223372036854775808 ≤ a ∧ a ≤ 9223372036854775807) (hb : b ≠ -1) (hz : b ≠ 0) : -9223372036854775808 ≤ Int.tdiv a b ∧ Int.tdiv a b ≤ 9223372036854775807 := by
  have h : (Int.tdiv a b).natAbs ≤ a.natAbs := by rw [Int.natAbs_tdiv]; exact Nat.div_le_self _ _
  have h2 : a ≠ -9223372036854775808 ∨ a = -9223372036854775808 := by omega
  rcases h2 with h2 | h2
  · omega
  · have h3 : (Int.tdiv a b).natAbs * b.natAbs ≤ a.natAbs := by rw [Int.natAbs_tdiv]; exact Nat.div_mul_le_self _ _
    by_cases hb1 : b = 1
    · subst hb1; rw [Int.tdiv_one]; omega
    · have h4 : 2 ≤ b.natAbs := by omega
      have h5 : (Int.tdiv a b).natAbs * 2 ≤ (Int.tdiv a b).natAbs * b.natAbs := Nat.mul_le_mul_left _ h4
      omega
theorem tmod_rng {a b : Int} (ha : -9223372036854775808 ≤ a ∧ a ≤ 9223372036854775807) : -9223372036854775808 ≤ Int.tmod a b ∧ Int.tmod a b ≤ 9223372036854775807 := by
  have h : (Int.tmod a b).natAbs ≤ a.natAbs := by rw [Int.natAbs_tmod]; exact Nat.mod_le _ _
  rcases Int.lt_or_le a 0 with h0 | h0
  · have := Int.tmod_nonneg b (a := -a) (by omega)
    rw [Int.neg_tmod] at this
    omega
  · have := Int.tmod_nonneg b h0
    omega

end Go.Proofs.Ytmjnepficndpfaa.Pure
