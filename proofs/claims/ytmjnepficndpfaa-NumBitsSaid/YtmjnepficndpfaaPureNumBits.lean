/- Bits moved up and down, and the lowest ones as a number, are those of the reference, whatever the two numbers are. -/
import Derived.Test.YtmjnepficndpfaaPNx4
import Derived.Test.YtmjnepficndpfaaNumLib
namespace Go.Proofs.Ytmjnepficndpfaa.Pure
open Go.RowKit Go.Proofs.Ytmjnepficndpfaa.PN Go.Proofs.YtmjnepficndpfaaW.PrintWords Go.Proofs.YtmjnepficndpfaaW.PrintLast Go.Proofs.YtmjnepficndpfaaW.PrintMore

theorem and_one (n : Int) : bits .and .i64 n 1 = n % 2 := by
  have h1 : (BitVec.ofInt 64 1).toNat = 2 ^ 1 - 1 := by decide
  have key : (BitVec.ofInt 64 n &&& BitVec.ofInt 64 1).toNat = (n % ((2 ^ 64 : Nat) : Int)).toNat % 2 ^ 1 := by
    rw [BitVec.toNat_and, BitVec.toNat_ofInt, h1, Nat.and_two_pow_sub_one_eq_mod]
  show IntKind.i64.wrap ((BitVec.ofInt 64 n &&& BitVec.ofInt 64 1).toNat : Nat) = n % 2
  rw [key, IntKind.wrap_i64]
  omega

theorem wi8 (n : Int) : IntKind.i8.wrap n = (n + 128) % 256 - 128 := by simp [IntKind.wrap, IntKind.bits, IntKind.signed]; omega
theorem wi16 (n : Int) : IntKind.i16.wrap n = (n + 32768) % 65536 - 32768 := by simp [IntKind.wrap, IntKind.bits, IntKind.signed]; omega

theorem u_pred (n : Nat) (h : n < 100) : IntKind.u64.wrap (((n + 1 : Nat) : Int) - 1) = n := by rw [u_mod]; omega

theorem shl_l0 (n : Nat) : ∀ (k : Nat) (a : Int), n < k → n < 100 → -9223372036854775808 ≤ a → a ≤ 9223372036854775807 → reticuleref01_Shl.l0 k a n = some (wrap64 (a * 2 ^ n)) := by
  induction n with
  | zero =>
    intro k a hk _ h0 h1
    obtain ⟨k, rfl⟩ : ∃ m, k = m + 1 := ⟨k - 1, by omega⟩
    simp only [reticuleref01_Shl.l0]
    rw [if_neg (by simp), Int.pow_zero, Int.mul_one, wrap_id h0 h1]
  | succ n ih =>
    intro k a hk hn h0 h1
    obtain ⟨k, rfl⟩ : ∃ m, k = m + 1 := ⟨k - 1, by omega⟩
    simp only [reticuleref01_Shl.l0]
    rw [if_pos (by omega), ref_add, Option.bind_some, u_pred n (by omega), ih k _ (by omega) (by omega) (wrap_rng _).1 (wrap_rng _).2, mul_wrap]
    congr 2
    rw [Int.pow_succ, Int.add_mul, ← Int.mul_assoc]
    omega

theorem half (a : Int) (h0 : -9223372036854775808 ≤ a) (h1 : a ≤ 9223372036854775807) : wrap64 (Int.tdiv (wrap64 (a - bits .and .i64 a 1)) 2) = a / 2 := by
  rw [and_one]
  have e : wrap64 (a - a % 2) = 2 * (a / 2) := by unfold wrap64; omega
  rw [e, Int.mul_tdiv_cancel_left _ (by decide)]
  exact wrap_id (by omega) (by omega)

theorem shr_l0 (n : Nat) : ∀ (k : Nat) (a : Int), n < k → n < 100 → -9223372036854775808 ≤ a → a ≤ 9223372036854775807 → reticuleref01_Shr.l0 k a n = some (a / 2 ^ n) := by
  induction n with
  | zero =>
    intro k a hk _ h0 h1
    obtain ⟨k, rfl⟩ : ∃ m, k = m + 1 := ⟨k - 1, by omega⟩
    simp only [reticuleref01_Shr.l0]
    rw [if_neg (by simp), Int.pow_zero, Int.ediv_one]
  | succ n ih =>
    intro k a hk hn h0 h1
    obtain ⟨k, rfl⟩ : ∃ m, k = m + 1 := ⟨k - 1, by omega⟩
    simp only [reticuleref01_Shr.l0]
    rw [if_pos (by omega), half a h0 h1, u_pred n (by omega), ih k _ (by omega) (by omega) (by omega) (by omega)]
    congr 1
    rw [Int.pow_succ, Int.mul_comm, Int.ediv_ediv_of_nonneg (by decide)]

theorem count64 (b : Int) : ∃ n : Nat, n < 64 ∧ Int.tmod (IntKind.u64.wrap b) 64 = n := by
  rw [u_mod]
  refine ⟨((b % 18446744073709551616) % 64).toNat, by omega, ?_⟩
  rw [Int.tmod_eq_emod_of_nonneg (by omega)]
  omega

/-- The narrowing loop from the i-th round on. -/
theorem narrow_l0 (z b : Int) (d : Nat) : ∀ (i k : Nat), (z : Int) = (i : Int) + d → i + d ≤ 32 → d < k →
    reticuleref01_Narrow.l0 k z b (2 ^ i) i = reticuleref01_Narrow.l0 1 z b (2 ^ (i + d)) z := by
  induction d with
  | zero =>
    intro i k hz hi hk
    obtain ⟨k, rfl⟩ : ∃ m, k = m + 1 := ⟨k - 1, by omega⟩
    obtain rfl : z = i := by omega
    simp only [reticuleref01_Narrow.l0, Nat.add_zero]
    rw [if_neg (Int.lt_irrefl _), if_neg (Int.lt_irrefl _)]
  | succ d ih =>
    intro i k hz hi hk
    obtain ⟨k, rfl⟩ : ∃ m, k = m + 1 := ⟨k - 1, by omega⟩
    have h1 : reticuleref01_Narrow.l0 (k + 1) z b (2 ^ i) i = reticuleref01_Narrow.l0 k z b (IntKind.u64.wrap (2 ^ i * 2)) (wrap64 ((i : Int) + 1)) := by
      simp only [reticuleref01_Narrow.l0]
      rw [if_pos (by omega)]
    have h2 : (2 : Int) ^ i * 2 = 2 ^ (i + 1) := (Int.pow_succ _ _).symm
    have h3 : (2 : Int) ^ (i + 1) ≤ 2 ^ 32 := by
      have : (2 : Nat) ^ (i + 1) ≤ 2 ^ 32 := Nat.pow_le_pow_right (by decide) (by omega)
      exact_mod_cast this
    have h4 : (0 : Int) < 2 ^ (i + 1) := Int.pow_pos (by decide)
    rw [h1, h2, u_mod, Int.emod_eq_of_lt (by omega) (by omega), wrap_id (by omega) (by omega), show ((i : Int) + 1) = ((i + 1 : Nat) : Int) from by omega, ih (i + 1) k (by omega) (by omega) (by omega), show i + 1 + d = i + (d + 1) from by omega]

theorem narrow8 (b : Int) : reticuleref01_Narrow.f 40 8 b = num_Narrow.f 8 b := by
  have h := narrow_l0 8 b 8 0 39 rfl (by decide) (by decide)
  unfold reticuleref01_Narrow.f num_Narrow.f
  rw [if_pos rfl, if_pos rfl]
  simp only [reticuleref01_Narrow.j0]
  rw [if_neg (by decide)]
  refine h.trans ?_
  simp only [reticuleref01_Narrow.l0]
  rw [u_mod, Int.tmod_eq_emod_of_nonneg (by omega)]
  have e : IntKind.u64.wrap (Int.tdiv (2 ^ (0 + 8)) 2) = 128 := by decide
  have e2 : ((2 : Int) ^ (0 + 8)) = 256 := by decide
  rw [e, e2, wi8]
  rw [if_neg (by decide), if_neg (by decide)]
  split
  · congr 1; unfold wrap64; omega
  · congr 1; unfold wrap64; omega

theorem narrow16 (b : Int) : reticuleref01_Narrow.f 40 16 b = num_Narrow.f 16 b := by
  have h := narrow_l0 16 b 16 0 39 rfl (by decide) (by decide)
  unfold reticuleref01_Narrow.f num_Narrow.f
  rw [if_neg (by decide), if_pos rfl, if_neg (by decide), if_pos rfl]
  simp only [reticuleref01_Narrow.j0]
  rw [if_neg (by decide)]
  refine h.trans ?_
  simp only [reticuleref01_Narrow.l0]
  rw [u_mod, Int.tmod_eq_emod_of_nonneg (by omega)]
  have e : IntKind.u64.wrap (Int.tdiv (2 ^ (0 + 16)) 2) = 32768 := by decide
  have e2 : ((2 : Int) ^ (0 + 16)) = 65536 := by decide
  rw [e, e2, wi16]
  rw [if_neg (by decide), if_neg (by decide)]
  split
  · congr 1; unfold wrap64; omega
  · congr 1; unfold wrap64; omega

theorem narrow32 (b : Int) : reticuleref01_Narrow.f 40 32 b = num_Narrow.f 32 b := by
  have h := narrow_l0 32 b 32 0 39 rfl (by decide) (by decide)
  unfold reticuleref01_Narrow.f num_Narrow.f
  rw [if_neg (by decide), if_neg (by decide), if_neg (by decide), if_neg (by decide), if_pos rfl]
  simp only [reticuleref01_Narrow.j0]
  rw [if_neg (by decide)]
  refine h.trans ?_
  simp only [reticuleref01_Narrow.l0]
  rw [u_mod, Int.tmod_eq_emod_of_nonneg (by omega)]
  have e : IntKind.u64.wrap (Int.tdiv (2 ^ (0 + 32)) 2) = 2147483648 := by decide
  have e2 : ((2 : Int) ^ (0 + 32)) = 4294967296 := by decide
  rw [e, e2]
  unfold wrap32
  rw [if_neg (by decide), if_neg (by decide)]
  split
  · congr 1; unfold wrap64; omega
  · congr 1; unfold wrap64; omega

theorem narrow_any (a b : Int) : reticuleref01_Narrow.f 40 a b = num_Narrow.f a b := by
  by_cases h1 : a = 8
  · subst h1; exact narrow8 b
  by_cases h2 : a = 16
  · subst h2; exact narrow16 b
  by_cases h3 : a = 32
  · subst h3; exact narrow32 b
  unfold reticuleref01_Narrow.f num_Narrow.f
  rw [if_neg h1, if_neg h2, if_neg h1, if_neg h2, if_neg h3, bne_iff_ne.2 h3]
  simp only [reticuleref01_Narrow.j0, if_true]

theorem NumBits : reticulelaw01_NumBits.Pure := by
  intro a b ha0 _
  have ha := rng ha0

  obtain ⟨n, hn, e⟩ := count64 b
  have g1 : num_Shl.f a b = some (wrap64 (a * 2 ^ n)) := by
    unfold num_Shl.f shl
    rw [e, if_pos (by omega), Int.toNat_natCast, Nat.min_eq_left (by show n ≤ 64; omega), i64_w]
  have g2 : reticuleref01_Shl.f 100 a b = some (wrap64 (a * 2 ^ n)) := by
    unfold reticuleref01_Shl.f
    rw [e]; exact shl_l0 n 100 a (by omega) (by omega) ha.1 ha.2
  have g3 : num_Shr.f a b = some (a / 2 ^ n) := by
    unfold num_Shr.f shr
    rw [e, if_pos (by omega), Int.toNat_natCast, Nat.min_eq_left (by show n ≤ 64; omega)]
  have g4 : reticuleref01_Shr.f 100 a b = some (a / 2 ^ n) := by
    unfold reticuleref01_Shr.f
    rw [e]; exact shr_l0 n 100 a (by omega) (by omega) ha.1 ha.2
  have nt : ∀ x, ∃ d, num_Narrow.f x b = some d := fun x => by unfold num_Narrow.f; (repeat' split) <;> exact ⟨_, rfl⟩
  have nr : ∀ x d, num_Narrow.f x b = some d → reticuleref01_Narrow.f 100 x b = some d := fun x d h =>
    LeO_le (reticuleref01_Narrow.mono x b) (show 40 ≤ 100 by decide) ((narrow_any x b).trans h)
  obtain ⟨d1, e1⟩ := nt a
  obtain ⟨d2, e2⟩ := nt 8
  obtain ⟨d3, e3⟩ := nt 16
  obtain ⟨d4, e4⟩ := nt 32
  refine ⟨100, ?_⟩
  unfold reticulelaw01_NumBits.f
  simp only [live_from (show 30 ≤ 100 by decide), g1, g2, g3, g4, e1, e2, e3, e4, nr _ _ e1, nr _ _ e2, nr _ _ e3, nr _ _ e4, Option.bind_some, if_true, beq_self_eq_true]

end Go.Proofs.Ytmjnepficndpfaa.Pure
