/- Plain facts: bytes and numbers, there and back. -/
import Derived.Test.YtmjnepficndpfaaDoorJn
set_option linter.unusedSimpArgs false
set_option linter.unusedVariables false
namespace Go.Proofs.YtmjnepficndpfaaDoor.Dig
open Go.RowKit
def raw (x b : Int) : Int := x * 256 + b
theorem jst_raw : ∀ (l : List Int), (∀ b ∈ l, 0 ≤ b ∧ b < 256) → ∀ (x y : Int), wrap64 y = x → l.foldl jst x = wrap64 (l.foldl raw y)
  | [], _, x, y, h => h.symm
  | b :: l, hl, x, y, h => by
    have hb := hl b List.mem_cons_self
    rw [List.foldl_cons, List.foldl_cons]
    refine jst_raw l (fun c hc => hl c (List.mem_cons_of_mem _ hc)) _ _ ?_
    rw [show jst x b = wrap64 (x * 256 + b) from or_low x b hb.1 hb.2, ← h]
    unfold raw wrap64
    omega
theorem byt_rng (a : Int) (j : Nat) : 0 ≤ byt a j ∧ byt a j < 256 := by unfold byt; omega
def bl (a : Int) : List Int := [byt a 0, byt a 1, byt a 2, byt a 3, byt a 4, byt a 5, byt a 6, byt a 7]
theorem bl_rng (a : Int) : ∀ b ∈ bl a, 0 ≤ b ∧ b < 256 := fun b hb => by
  simp only [bl, List.mem_cons, List.not_mem_nil, or_false] at hb
  rcases hb with rfl | rfl | rfl | rfl | rfl | rfl | rfl | rfl <;> exact byt_rng a _
theorem join_bytes (a : Int) (h0 : -9223372036854775808 ≤ a) (h1 : a ≤ 9223372036854775807) : (bl a).foldl jst 0 = a := by
  rw [jst_raw (bl a) (bl_rng a) 0 0 (by unfold wrap64; omega)]
  have hs : ∀ (z : Int), z / 256 * 256 + z % 256 = z := fun z => by omega
  obtain ⟨u, hu⟩ : ∃ u, u = a % 18446744073709551616 := ⟨_, rfl⟩
  have hu0 : 0 ≤ u ∧ u < 18446744073709551616 := by omega
  have b0 : byt a 0 = u / 72057594037927936 % 256 := by rw [hu]; unfold byt; simp only [Nat.reduceSub, Nat.reduceMul, Int.reducePow]; omega
  have b1 : byt a 1 = u / 281474976710656 % 256 := by rw [hu]; unfold byt; simp only [Nat.reduceSub, Nat.reduceMul, Int.reducePow]; omega
  have b2 : byt a 2 = u / 1099511627776 % 256 := by rw [hu]; unfold byt; simp only [Nat.reduceSub, Nat.reduceMul, Int.reducePow]; omega
  have b3 : byt a 3 = u / 4294967296 % 256 := by rw [hu]; unfold byt; simp only [Nat.reduceSub, Nat.reduceMul, Int.reducePow]; omega
  have b4 : byt a 4 = u / 16777216 % 256 := by rw [hu]; unfold byt; simp only [Nat.reduceSub, Nat.reduceMul, Int.reducePow]; omega
  have b5 : byt a 5 = u / 65536 % 256 := by rw [hu]; unfold byt; simp only [Nat.reduceSub, Nat.reduceMul, Int.reducePow]; omega
  have b6 : byt a 6 = u / 256 % 256 := by rw [hu]; unfold byt; simp only [Nat.reduceSub, Nat.reduceMul, Int.reducePow]; omega
  have b7 : byt a 7 = u / 1 % 256 := by rw [hu]; unfold byt; simp only [Nat.reduceSub, Nat.reduceMul, Int.reducePow]; omega
  simp only [bl, List.foldl_cons, List.foldl_nil, raw, b0, b1, b2, b3, b4, b5, b6, b7]
  have q0 : u / 18446744073709551616 = 0 := by omega
  have e0 : u / 72057594037927936 = u / 18446744073709551616 * 256 + u / 72057594037927936 % 256 := by omega
  have e1 : u / 281474976710656 = u / 72057594037927936 * 256 + u / 281474976710656 % 256 := by omega
  have e2 : u / 1099511627776 = u / 281474976710656 * 256 + u / 1099511627776 % 256 := by omega
  have e3 : u / 4294967296 = u / 1099511627776 * 256 + u / 4294967296 % 256 := by omega
  have e4 : u / 16777216 = u / 4294967296 * 256 + u / 16777216 % 256 := by omega
  have e5 : u / 65536 = u / 16777216 * 256 + u / 65536 % 256 := by omega
  have e6 : u / 256 = u / 65536 * 256 + u / 256 % 256 := by omega
  have e7 : u / 1 = u / 256 * 256 + u / 1 % 256 := by omega
  have f : ((((((((0 : Int) * 256 + u / 72057594037927936 % 256) * 256 + u / 281474976710656 % 256) * 256 + u / 1099511627776 % 256) * 256 + u / 4294967296 % 256) * 256 + u / 16777216 % 256) * 256 + u / 65536 % 256) * 256 + u / 256 % 256) * 256 + u / 1 % 256 = u := by
    rw [show (0 : Int) * 256 + u / 72057594037927936 % 256 = u / 72057594037927936 by omega, ← e1, ← e2, ← e3, ← e4, ← e5, ← e6, ← e7, Int.ediv_one]
  rw [f, hu]
  unfold wrap64
  omega
theorem bytes_join (b0 b1 b2 b3 b4 b5 b6 b7 : Int) (hb : ∀ x ∈ [b0, b1, b2, b3, b4, b5, b6, b7], 0 ≤ x ∧ x < 256) : bl ([b0, b1, b2, b3, b4, b5, b6, b7].foldl jst 0) = [b0, b1, b2, b3, b4, b5, b6, b7] := by
  rw [jst_raw _ hb 0 0 (by unfold wrap64; omega)]
  have h0 := hb b0 (by simp)
  have h1 := hb b1 (by simp)
  have h2 := hb b2 (by simp)
  have h3 := hb b3 (by simp)
  have h4 := hb b4 (by simp)
  have h5 := hb b5 (by simp)
  have h6 := hb b6 (by simp)
  have h7 := hb b7 (by simp)
  clear hb
  simp only [List.foldl_cons, List.foldl_nil, raw]
  obtain ⟨V, hV⟩ : ∃ V, V = (((((((0 * 256 + b0) * 256 + b1) * 256 + b2) * 256 + b3) * 256 + b4) * 256 + b5) * 256 + b6) * 256 + b7 := ⟨_, rfl⟩
  rw [← hV]
  have hV0 : 0 ≤ V ∧ V < 18446744073709551616 := by omega
  have hw : wrap64 V % 18446744073709551616 = V := by unfold wrap64; omega
  obtain ⟨X, hX⟩ : ∃ X, X = wrap64 V := ⟨_, rfl⟩
  rw [← hX] at hw ⊢
  clear hX
  unfold bl byt
  simp only [Nat.reduceSub, Nat.reduceMul, Int.reducePow]
  have v0 : V / 72057594037927936 = 0 * 256 + b0 := by omega
  have v1 : V / 281474976710656 = (0 * 256 + b0) * 256 + b1 := by omega
  have v2 : V / 1099511627776 = ((0 * 256 + b0) * 256 + b1) * 256 + b2 := by omega
  have v3 : V / 4294967296 = (((0 * 256 + b0) * 256 + b1) * 256 + b2) * 256 + b3 := by omega
  have v4 : V / 16777216 = ((((0 * 256 + b0) * 256 + b1) * 256 + b2) * 256 + b3) * 256 + b4 := by omega
  have v5 : V / 65536 = (((((0 * 256 + b0) * 256 + b1) * 256 + b2) * 256 + b3) * 256 + b4) * 256 + b5 := by omega
  have v6 : V / 256 = ((((((0 * 256 + b0) * 256 + b1) * 256 + b2) * 256 + b3) * 256 + b4) * 256 + b5) * 256 + b6 := by omega
  have r0 : X / 72057594037927936 % 256 = b0 := by omega
  have r1 : X / 281474976710656 % 256 = b1 := by omega
  have r2 : X / 1099511627776 % 256 = b2 := by omega
  have r3 : X / 4294967296 % 256 = b3 := by omega
  have r4 : X / 16777216 % 256 = b4 := by omega
  have r5 : X / 65536 % 256 = b5 := by omega
  have r6 : X / 256 % 256 = b6 := by omega
  have r7 : X / 1 % 256 = b7 := by omega
  rw [r0, r1, r2, r3, r4, r5, r6, r7]
end Go.Proofs.YtmjnepficndpfaaDoor.Dig
