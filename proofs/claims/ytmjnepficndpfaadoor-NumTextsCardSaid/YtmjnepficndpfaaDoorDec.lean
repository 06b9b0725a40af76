/- Decimal digits as bytes: plain lists, no program in sight. -/
import Derived.Below
namespace Go.Proofs.YtmjnepficndpfaaDoor.Dig

/-- The decimal digits of a number, no noughts ahead. -/
def dec (n : Nat) : List UInt8 := if n < 10 then [UInt8.ofNat (48 + n)] else dec (n / 10) ++ [UInt8.ofNat (48 + n % 10)]
termination_by n

theorem dec_small {n : Nat} (h : n < 10) : dec n = [UInt8.ofNat (48 + n)] := by rw [dec, if_pos h]
theorem dec_big {n : Nat} (h : ¬ n < 10) : dec n = dec (n / 10) ++ [UInt8.ofNat (48 + n % 10)] := by rw [dec, if_neg h]

theorem dec_pos (n : Nat) : 1 ≤ (dec n).length := by
  rw [dec]; split <;> simp

theorem dec_len : ∀ (k n : Nat), n < 10 ^ (k + 1) → (dec n).length ≤ k + 1
  | 0, n, h => by rw [dec_small (by simpa using h)]; simp
  | k + 1, n, h => by
    by_cases h10 : n < 10
    · rw [dec_small h10]; simp
    · rw [dec_big h10]
      have := dec_len k (n / 10) (by rw [Nat.pow_succ] at h; omega)
      simp; omega

/-- A number as text. -/
def text (a : Int) : List UInt8 := if a < 0 then 45 :: dec a.natAbs else dec a.natAbs

theorem text_neg {a : Int} (h : a < 0) : text a = 45 :: dec a.natAbs := by rw [text, if_pos h]
theorem text_nat {a : Int} (h : ¬ a < 0) : text a = dec a.natAbs := by rw [text, if_neg h]

end Go.Proofs.YtmjnepficndpfaaDoor.Dig
