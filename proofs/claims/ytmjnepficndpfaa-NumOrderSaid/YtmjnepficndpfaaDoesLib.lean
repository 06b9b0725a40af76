/- Numbers that go round, and each operation against the reference: plain arithmetic for the law on operations. -/
import Derived.Test.YtmjnepficndpfaaPDx7
import Derived.Laws.Bits64
namespace Go.Proofs.Ytmjnepficndpfaa.Pure
open Go.RowKit Go.Proofs.Ytmjnepficndpfaa.PD Go.Proofs.YtmjnepficndpfaaW.PrintWords Go.Proofs.YtmjnepficndpfaaW.PrintLast Go.Proofs.YtmjnepficndpfaaW.PrintMore Go.Proofs.Ytmjnepficndpfaa.Dig

theorem live_yes : reticulelaw01_live.f 30 = some true := by decide +kernel

theorem LeO_le {α : Type} {F : Nat → Option α} (h : ∀ k, LeO (F k) (F (k + 1))) {a b : Nat} (hab : a ≤ b) {r : α} (hr : F a = some r) : F b = some r := by
  induction b with
  | zero => obtain rfl : a = 0 := by omega
            exact hr
  | succ b ih =>
    by_cases e : a = b + 1
    · rw [← e]; exact hr
    · exact h b r (ih (by omega))

theorem live_from {k : Nat} (h : 30 ≤ k) : reticulelaw01_live.f k = some true := LeO_le reticulelaw01_live.mono h live_yes

theorem wrap_congr {x y : Int} (h : x % 18446744073709551616 = y % 18446744073709551616) : wrap64 x = wrap64 y := by
  unfold wrap64; omega
theorem wrap_mod (x : Int) : wrap64 x % 18446744073709551616 = x % 18446744073709551616 := by
  unfold wrap64; omega
theorem wrap_id {x : Int} (h0 : -9223372036854775808 ≤ x) (h1 : x ≤ 9223372036854775807) : wrap64 x = x := by
  unfold wrap64; omega
theorem wrap_rng (x : Int) : -9223372036854775808 ≤ wrap64 x ∧ wrap64 x ≤ 9223372036854775807 := by
  unfold wrap64; omega
theorem u_mod (x : Int) : IntKind.u64.wrap x = x % 18446744073709551616 := IntKind.wrap_u64 x
theorem rng {a : Int} (h : (Lit.int .i64 a).wf = true) : -9223372036854775808 ≤ a ∧ a ≤ 9223372036854775807 := by
  have h1 : IntKind.i64.min = -9223372036854775808 := by decide
  have h2 : IntKind.i64.max = 9223372036854775807 := by decide
  simp [Lit.wf, h1, h2] at h
  omega

theorem mul_wrap (x y : Int) : wrap64 (wrap64 x * y) = wrap64 (x * y) := by
  apply wrap_congr; rw [Int.mul_emod, wrap_mod, ← Int.mul_emod]
theorem add_wrap (x y : Int) : wrap64 (wrap64 x + y) = wrap64 (x + y) := by
  apply wrap_congr; rw [Int.add_emod, wrap_mod, ← Int.add_emod]

theorem ref_add (a b : Int) : reticuleref01_Add.f a b = some (wrap64 (a + b)) := by
  unfold reticuleref01_Add.f; rw [u_mod, u_mod, u_mod]; congr 1; apply wrap_congr; omega

theorem tdiv_rng {a b : Int} (ha : -9223372036854775808 ≤ a ∧ a ≤ 9223372036854775807) (hb : b ≠ -1) (hz : b ≠ 0) : -9223372036854775808 ≤ Int.tdiv a b ∧ Int.tdiv a b ≤ 9223372036854775807 := by
  have h : (Int.tdiv a b).natAbs ≤ a.natAbs := by rw [Int.natAbs_tdiv]; exact Nat.div_le_self _ _
  have h2 : a ≠ -9223372036854775808 ∨ a = -9223372036854775808 := by omega
  rcases h2 with h2 | h2
  · omega
  · have h3 : (Int.tdiv a b).natAbs * b.natAbs ≤ a.natAbs := by rw [Int.natAbs_tdiv]; exact Nat.div_mul_le_self _ _
    by_cases hb1 : b = 1
    · subst hb1; rw [Int.tdiv_one]; omega
    · have h4 : 2 ≤ b.natAbs := by omega
      have h5 : (Int.tdiv a b).natAbs * 2 ≤ (Int.tdiv a b).natAbs * b.natAbs := Nat.mul_le_mul_left _ h4
      omega
theorem tmod_rng {a b : Int} (ha : -9223372036854775808 ≤ a ∧ a ≤ 9223372036854775807) : -9223372036854775808 ≤ Int.tmod a b ∧ Int.tmod a b ≤ 9223372036854775807 := by
  have h : (Int.tmod a b).natAbs ≤ a.natAbs := by rw [Int.natAbs_tmod]; exact Nat.mod_le _ _
  rcases Int.lt_or_le a 0 with h0 | h0
  · have := Int.tmod_nonneg b (a := -a) (by omega)
    rw [Int.neg_tmod] at this
    omega
  · have := Int.tmod_nonneg b h0
    omega


theorem ref_sub (a b : Int) : reticuleref01_Sub.f a b = some (wrap64 (a - b)) := by
  unfold reticuleref01_Sub.f; rw [u_mod, u_mod, u_mod]; congr 1; apply wrap_congr; omega
theorem ref_mul (a b : Int) : reticuleref01_Mul.f a b = some (wrap64 (a * b)) := by
  unfold reticuleref01_Mul.f; rw [u_mod, u_mod, u_mod]; congr 1; apply wrap_congr
  rw [Int.emod_emod_of_dvd _ (Int.dvd_refl _), ← Int.mul_emod]
theorem ref_div (a b : Int) : reticuleref01_Div.f a b = num_Div.f a b := by
  unfold reticuleref01_Div.f num_Div.f
  rw [ref_sub, Option.bind_some, Int.zero_sub]
theorem ref_mod {a : Int} (b : Int) (ha : -9223372036854775808 ≤ a ∧ a ≤ 9223372036854775807) : reticuleref01_Mod.f a b = num_Mod.f a b := by
  unfold reticuleref01_Mod.f
  rw [ref_div]
  unfold num_Mod.f num_Div.f
  by_cases h0 : b = 0
  · rw [if_pos h0, if_pos h0]
  · rw [if_neg h0, if_neg h0, if_neg h0]
    by_cases h1 : b = -1
    · rw [if_pos h1, if_pos h1]
      simp only [Option.bind_some, ref_mul, ref_sub]
      subst h1
      congr 1
      unfold wrap64
      omega
    · rw [if_neg h1, if_neg h1]
      simp only [Option.bind_some, ref_mul, ref_sub]
      have hd := tdiv_rng ha h1 h0
      have hm := tmod_rng (b := b) ha
      rw [wrap_id hd.1 hd.2]
      have e := Int.tmod_add_mul_tdiv a b
      congr 1
      have e2 : wrap64 (a - wrap64 (b * Int.tdiv a b)) = wrap64 (Int.tmod a b) := by
        apply wrap_congr
        rw [Int.sub_emod, wrap_mod, ← Int.sub_emod]
        congr 1
        omega
      rw [e2, wrap_id hm.1 hm.2]


theorem and_one (n : Int) : bits .and .i64 n 1 = n % 2 := by
  have h1 : (BitVec.ofInt 64 1).toNat = 2 ^ 1 - 1 := by decide
  have key : (BitVec.ofInt 64 n &&& BitVec.ofInt 64 1).toNat = (n % ((2 ^ 64 : Nat) : Int)).toNat % 2 ^ 1 := by
    rw [BitVec.toNat_and, BitVec.toNat_ofInt, h1, Nat.and_two_pow_sub_one_eq_mod]
  show IntKind.i64.wrap ((BitVec.ofInt 64 n &&& BitVec.ofInt 64 1).toNat : Nat) = n % 2
  rw [key, IntKind.wrap_i64]
  omega

theorem wi8 (n : Int) : IntKind.i8.wrap n = (n + 128) % 256 - 128 := by simp [IntKind.wrap, IntKind.bits, IntKind.signed]; omega
theorem wi16 (n : Int) : IntKind.i16.wrap n = (n + 32768) % 65536 - 32768 := by simp [IntKind.wrap, IntKind.bits, IntKind.signed]; omega

theorem u_pred (n : Nat) (h : n < 100) : IntKind.u64.wrap (((n + 1 : Nat) : Int) - 1) = n := by rw [u_mod]; omega

theorem shl_l0 (n : Nat) : ∀ (k : Nat) (a : Int), n < k → n < 100 → -9223372036854775808 ≤ a → a ≤ 9223372036854775807 → reticuleref01_Shl.l0 k a n = some (wrap64 (a * 2 ^ n)) := by
  induction n with
  | zero =>
    intro k a hk _ h0 h1
    obtain ⟨k, rfl⟩ : ∃ m, k = m + 1 := ⟨k - 1, by omega⟩
    simp only [reticuleref01_Shl.l0]
    rw [if_neg (by simp), Int.pow_zero, Int.mul_one, wrap_id h0 h1]
  | succ n ih =>
    intro k a hk hn h0 h1
    obtain ⟨k, rfl⟩ : ∃ m, k = m + 1 := ⟨k - 1, by omega⟩
    simp only [reticuleref01_Shl.l0]
    rw [if_pos (by omega), ref_add, Option.bind_some, u_pred n (by omega), ih k _ (by omega) (by omega) (wrap_rng _).1 (wrap_rng _).2, mul_wrap]
    congr 2
    rw [Int.pow_succ, Int.add_mul, ← Int.mul_assoc]
    omega

theorem half (a : Int) (h0 : -9223372036854775808 ≤ a) (h1 : a ≤ 9223372036854775807) : wrap64 (Int.tdiv (wrap64 (a - bits .and .i64 a 1)) 2) = a / 2 := by
  rw [and_one]
  have e : wrap64 (a - a % 2) = 2 * (a / 2) := by unfold wrap64; omega
  rw [e, Int.mul_tdiv_cancel_left _ (by decide)]
  exact wrap_id (by omega) (by omega)

theorem shr_l0 (n : Nat) : ∀ (k : Nat) (a : Int), n < k → n < 100 → -9223372036854775808 ≤ a → a ≤ 9223372036854775807 → reticuleref01_Shr.l0 k a n = some (a / 2 ^ n) := by
  induction n with
  | zero =>
    intro k a hk _ h0 h1
    obtain ⟨k, rfl⟩ : ∃ m, k = m + 1 := ⟨k - 1, by omega⟩
    simp only [reticuleref01_Shr.l0]
    rw [if_neg (by simp), Int.pow_zero, Int.ediv_one]
  | succ n ih =>
    intro k a hk hn h0 h1
    obtain ⟨k, rfl⟩ : ∃ m, k = m + 1 := ⟨k - 1, by omega⟩
    simp only [reticuleref01_Shr.l0]
    rw [if_pos (by omega), half a h0 h1, u_pred n (by omega), ih k _ (by omega) (by omega) (by omega) (by omega)]
    congr 1
    rw [Int.pow_succ, Int.mul_comm, Int.ediv_ediv_of_nonneg (by decide)]

theorem count64 (b : Int) : ∃ n : Nat, n < 64 ∧ Int.tmod (IntKind.u64.wrap b) 64 = n := by
  rw [u_mod]
  refine ⟨((b % 18446744073709551616) % 64).toNat, by omega, ?_⟩
  rw [Int.tmod_eq_emod_of_nonneg (by omega)]
  omega

/-- The narrowing loop from the i-th round on. -/
theorem narrow_l0 (z b : Int) (d : Nat) : ∀ (i k : Nat), (z : Int) = (i : Int) + d → i + d ≤ 32 → d < k →
    reticuleref01_Narrow.l0 k z b (2 ^ i) i = reticuleref01_Narrow.l0 1 z b (2 ^ (i + d)) z := by
  induction d with
  | zero =>
    intro i k hz hi hk
    obtain ⟨k, rfl⟩ : ∃ m, k = m + 1 := ⟨k - 1, by omega⟩
    obtain rfl : z = i := by omega
    simp only [reticuleref01_Narrow.l0, Nat.add_zero]
    rw [if_neg (Int.lt_irrefl _), if_neg (Int.lt_irrefl _)]
  | succ d ih =>
    intro i k hz hi hk
    obtain ⟨k, rfl⟩ : ∃ m, k = m + 1 := ⟨k - 1, by omega⟩
    have h1 : reticuleref01_Narrow.l0 (k + 1) z b (2 ^ i) i = reticuleref01_Narrow.l0 k z b (IntKind.u64.wrap (2 ^ i * 2)) (wrap64 ((i : Int) + 1)) := by
      simp only [reticuleref01_Narrow.l0]
      rw [if_pos (by omega)]
    have h2 : (2 : Int) ^ i * 2 = 2 ^ (i + 1) := (Int.pow_succ _ _).symm
    have h3 : (2 : Int) ^ (i + 1) ≤ 2 ^ 32 := by
      have : (2 : Nat) ^ (i + 1) ≤ 2 ^ 32 := Nat.pow_le_pow_right (by decide) (by omega)
      exact_mod_cast this
    have h4 : (0 : Int) < 2 ^ (i + 1) := Int.pow_pos (by decide)
    rw [h1, h2, u_mod, Int.emod_eq_of_lt (by omega) (by omega), wrap_id (by omega) (by omega), show ((i : Int) + 1) = ((i + 1 : Nat) : Int) from by omega, ih (i + 1) k (by omega) (by omega) (by omega), show i + 1 + d = i + (d + 1) from by omega]

theorem narrow8 (b : Int) : reticuleref01_Narrow.f 40 8 b = num_Narrow.f 8 b := by
  have h := narrow_l0 8 b 8 0 39 rfl (by decide) (by decide)
  unfold reticuleref01_Narrow.f num_Narrow.f
  rw [if_pos rfl, if_pos rfl]
  simp only [reticuleref01_Narrow.j0]
  rw [if_neg (by decide)]
  refine h.trans ?_
  simp only [reticuleref01_Narrow.l0]
  rw [u_mod, Int.tmod_eq_emod_of_nonneg (by omega)]
  have e : IntKind.u64.wrap (Int.tdiv (2 ^ (0 + 8)) 2) = 128 := by decide
  have e2 : ((2 : Int) ^ (0 + 8)) = 256 := by decide
  rw [e, e2, wi8]
  rw [if_neg (by decide), if_neg (by decide)]
  split
  · congr 1; unfold wrap64; omega
  · congr 1; unfold wrap64; omega

theorem narrow16 (b : Int) : reticuleref01_Narrow.f 40 16 b = num_Narrow.f 16 b := by
  have h := narrow_l0 16 b 16 0 39 rfl (by decide) (by decide)
  unfold reticuleref01_Narrow.f num_Narrow.f
  rw [if_neg (by decide), if_pos rfl, if_neg (by decide), if_pos rfl]
  simp only [reticuleref01_Narrow.j0]
  rw [if_neg (by decide)]
  refine h.trans ?_
  simp only [reticuleref01_Narrow.l0]
  rw [u_mod, Int.tmod_eq_emod_of_nonneg (by omega)]
  have e : IntKind.u64.wrap (Int.tdiv (2 ^ (0 + 16)) 2) = 32768 := by decide
  have e2 : ((2 : Int) ^ (0 + 16)) = 65536 := by decide
  rw [e, e2, wi16]
  rw [if_neg (by decide), if_neg (by decide)]
  split
  · congr 1; unfold wrap64; omega
  · congr 1; unfold wrap64; omega

theorem narrow32 (b : Int) : reticuleref01_Narrow.f 40 32 b = num_Narrow.f 32 b := by
  have h := narrow_l0 32 b 32 0 39 rfl (by decide) (by decide)
  unfold reticuleref01_Narrow.f num_Narrow.f
  rw [if_neg (by decide), if_neg (by decide), if_neg (by decide), if_neg (by decide), if_pos rfl]
  simp only [reticuleref01_Narrow.j0]
  rw [if_neg (by decide)]
  refine h.trans ?_
  simp only [reticuleref01_Narrow.l0]
  rw [u_mod, Int.tmod_eq_emod_of_nonneg (by omega)]
  have e : IntKind.u64.wrap (Int.tdiv (2 ^ (0 + 32)) 2) = 2147483648 := by decide
  have e2 : ((2 : Int) ^ (0 + 32)) = 4294967296 := by decide
  rw [e, e2]
  unfold wrap32
  rw [if_neg (by decide), if_neg (by decide)]
  split
  · congr 1; unfold wrap64; omega
  · congr 1; unfold wrap64; omega

theorem narrow_any (a b : Int) : reticuleref01_Narrow.f 40 a b = num_Narrow.f a b := by
  by_cases h1 : a = 8
  · subst h1; exact narrow8 b
  by_cases h2 : a = 16
  · subst h2; exact narrow16 b
  by_cases h3 : a = 32
  · subst h3; exact narrow32 b
  unfold reticuleref01_Narrow.f num_Narrow.f
  rw [if_neg h1, if_neg h2, if_neg h1, if_neg h2, if_neg h3, bne_iff_ne.2 h3]
  simp only [reticuleref01_Narrow.j0, if_true]

end Go.Proofs.Ytmjnepficndpfaa.Pure
