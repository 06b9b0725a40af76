/- Numbers of bytes: the walks. -/
import Derived.Test.YtmjnepficndpfaaDoorByt
set_option linter.unusedSimpArgs false
set_option linter.unusedVariables false
namespace Go.Proofs.YtmjnepficndpfaaDoor.Dig
open Go.RowKit
def vals (bs : List Int) : List Value := bs.map (Value.int .u8)
def jst (x b : Int) : Int := Go.bits .or .i64 (wrap64 (x * 256)) b
set_option maxHeartbeats 2000000 in
theorem njoin_ok (b0 b1 b2 b3 b4 b5 b6 b7 : Int) (w : World) (hb : ∀ x ∈ [b0, b1, b2, b3, b4, b5, b6, b7], 0 ≤ x ∧ x < 256) :
    Calls Tryd.prog 11 #[.agg #[.int .u8 b0, .int .u8 b1, .int .u8 b2, .int .u8 b3, .int .u8 b4, .int .u8 b5, .int .u8 b6, .int .u8 b7]] w fun e w' => e = .returned (.int .i64 ([b0, b1, b2, b3, b4, b5, b6, b7].foldl jst 0)) ∧ Below w.heap.size w w' := by
  have HB := Lib.hid hb
  clear hb
  go_enter Tryd.func11, Tryd.ntmps11
  go_wp2
  have hA : Arr (w.alloc (.cells #[.int .u8 b0, .int .u8 b1, .int .u8 b2, .int .u8 b3, .int .u8 b4, .int .u8 b5, .int .u8 b6, .int .u8 b7] 23)) w.heap.size 23 (vals [b0, b1, b2, b3, b4, b5, b6, b7]) := Arr.new w 23 _
  have hB0 : Below w.heap.size w (w.alloc (.cells #[.int .u8 b0, .int .u8 b1, .int .u8 b2, .int .u8 b3, .int .u8 b4, .int .u8 b5, .int .u8 b6, .int .u8 b7] 23)) := (Below.refl _ w).alloc (Nat.le_refl _) _
  go_loopw [3, 5] (fun v3 v5 wr => ∃ i : Nat, i ≤ 8 ∧ v5 = .int .i64 i ∧ v3 = .int .i64 (([b0, b1, b2, b3, b4, b5, b6, b7].take i).foldl jst 0) ∧ Arr wr w.heap.size 23 (vals [b0, b1, b2, b3, b4, b5, b6, b7]) ∧ Below w.heap.size w wr) (fun _ v5 _ => 8 - (intOf v5).toNat)
  case atStart => exact ⟨0, by decide, rfl, rfl, hA, hB0⟩
  case round =>
    obtain ⟨i, hi, rfl, rfl, hA2, hb2⟩ := hrel
    obtain ⟨X, hX⟩ : ∃ X, X = ([b0, b1, b2, b3, b4, b5, b6, b7].take i).foldl jst 0 := ⟨_, rfl⟩
    rw [← hX]
    have HX := Lib.hid hX
    have HA2 := Lib.hid hA2
    have HB2 := Lib.hid hb2
    clear hX hA2 hb2 hA hB0
    by_cases hlt : i < 8
    · have c0 := HA2.out.cell i hlt
      obtain ⟨y, hy⟩ : ∃ y, y = [b0, b1, b2, b3, b4, b5, b6, b7][i] := ⟨_, rfl⟩
      have e : (vals [b0, b1, b2, b3, b4, b5, b6, b7])[i]'hlt = .int .u8 y := by rw [hy]; unfold vals; rw [List.getElem_map]
      rw [e] at c0
      have hyb := HB.out y (by rw [hy]; exact List.getElem_mem _)
      have HY := Lib.hid hy
      clear hy e
      go_wp2
      refine ⟨⟨i + 1, by omega, by go_num, ?_, HA2.out, HB2.out⟩, by simp [intOf]; omega⟩
      rw [List.take_succ_eq_append_getElem hlt, List.foldl_append, ← HX.out, ← HY.out]
      rfl
    · obtain rfl : i = 8 := by omega
      go_wp2
      go_ret
      exact ⟨by rw [HX.out]; rfl, HB2.out⟩
def jsu (x b : Int) : Int := IntKind.u64.wrap (IntKind.u64.wrap (x * 256) + b)
set_option maxHeartbeats 2000000 in
theorem rjoin_ok (b0 b1 b2 b3 b4 b5 b6 b7 : Int) (w : World) (hb : ∀ x ∈ [b0, b1, b2, b3, b4, b5, b6, b7], 0 ≤ x ∧ x < 256) :
    Calls Tryd.prog 12 #[.agg #[.int .u8 b0, .int .u8 b1, .int .u8 b2, .int .u8 b3, .int .u8 b4, .int .u8 b5, .int .u8 b6, .int .u8 b7]] w fun e w' => e = .returned (.int .i64 (wrap64 ([b0, b1, b2, b3, b4, b5, b6, b7].foldl jsu 0))) ∧ Below w.heap.size w w' := by
  have HB := Lib.hid hb
  clear hb
  go_enter Tryd.func12, Tryd.ntmps12
  go_wp2
  have hA : Arr (w.alloc (.cells #[.int .u8 b0, .int .u8 b1, .int .u8 b2, .int .u8 b3, .int .u8 b4, .int .u8 b5, .int .u8 b6, .int .u8 b7] 23)) w.heap.size 23 (vals [b0, b1, b2, b3, b4, b5, b6, b7]) := Arr.new w 23 _
  have hB0 : Below w.heap.size w (w.alloc (.cells #[.int .u8 b0, .int .u8 b1, .int .u8 b2, .int .u8 b3, .int .u8 b4, .int .u8 b5, .int .u8 b6, .int .u8 b7] 23)) := (Below.refl _ w).alloc (Nat.le_refl _) _
  go_loopw [3, 4] (fun v3 v5 wr => ∃ i : Nat, i ≤ 8 ∧ v5 = .int .i64 i ∧ v3 = .int .u64 (([b0, b1, b2, b3, b4, b5, b6, b7].take i).foldl jsu 0) ∧ Arr wr w.heap.size 23 (vals [b0, b1, b2, b3, b4, b5, b6, b7]) ∧ Below w.heap.size w wr) (fun _ v5 _ => 8 - (intOf v5).toNat)
  case atStart => exact ⟨0, by decide, rfl, rfl, hA, hB0⟩
  case round =>
    obtain ⟨i, hi, rfl, rfl, hA2, hb2⟩ := hrel
    obtain ⟨X, hX⟩ : ∃ X, X = ([b0, b1, b2, b3, b4, b5, b6, b7].take i).foldl jsu 0 := ⟨_, rfl⟩
    rw [← hX]
    have HX := Lib.hid hX
    have HA2 := Lib.hid hA2
    have HB2 := Lib.hid hb2
    clear hX hA2 hb2 hA hB0
    by_cases hlt : i < 8
    · have c0 := HA2.out.cell i hlt
      obtain ⟨y, hy⟩ : ∃ y, y = [b0, b1, b2, b3, b4, b5, b6, b7][i] := ⟨_, rfl⟩
      have e : (vals [b0, b1, b2, b3, b4, b5, b6, b7])[i]'hlt = .int .u8 y := by rw [hy]; unfold vals; rw [List.getElem_map]
      rw [e] at c0
      have hyb := HB.out y (by rw [hy]; exact List.getElem_mem _)
      have HY := Lib.hid hy
      clear hy e
      go_wp2
      refine ⟨⟨i + 1, by omega, by go_num, ?_, HA2.out, HB2.out⟩, by simp [intOf]; omega⟩
      rw [List.take_succ_eq_append_getElem hlt, List.foldl_append, ← HX.out, ← HY.out]
      rfl
    · obtain rfl : i = 8 := by omega
      go_wp2
      go_ret
      exact ⟨by rw [HX.out]; rfl, HB2.out⟩

/-! ### The number that bytes are -/
def jp (l : List Int) : Int := l.foldl (fun x b => x * 256 + b) 0
theorem or_low (x b : Int) (hb0 : 0 ≤ b) (hb : b < 256) : Go.bits .or .i64 (wrap64 (x * 256)) b = wrap64 (x * 256 + b) := by
  show IntKind.i64.wrap ((BitVec.ofInt 64 (wrap64 (x * 256)) ||| BitVec.ofInt 64 b).toNat : Int) = _
  have h1 : ((BitVec.ofInt 64 (wrap64 (x * 256))).toNat : Int) = (x * 256) % 18446744073709551616 := by
    rw [BitVec.toNat_ofInt]
    unfold wrap64
    omega
  have h2 : (BitVec.ofInt 64 b).toNat = b.toNat := by
    rw [BitVec.toNat_ofInt]
    omega
  obtain ⟨Y, hY⟩ : ∃ Y, Y = (BitVec.ofInt 64 (wrap64 (x * 256))).toNat := ⟨_, rfl⟩
  rw [BitVec.toNat_or, h2, ← hY]
  rw [← hY] at h1
  obtain ⟨y, rfl⟩ : ∃ y, Y = 2 ^ 8 * y := ⟨Y / 256, by omega⟩
  rw [← Nat.two_pow_add_eq_or_of_lt (show b.toNat < 2 ^ 8 by omega), IntKind.wrap_i64]
  unfold wrap64
  omega
/-- Both joins come to the same. -/
theorem join_eq : ∀ (l : List Int), (∀ b ∈ l, 0 ≤ b ∧ b < 256) → ∀ (x y : Int), wrap64 y = x → 0 ≤ y → y < 18446744073709551616 → l.foldl jst x = wrap64 (l.foldl jsu y)
  | [], _, x, y, h, _, _ => h.symm
  | b :: l, hl, x, y, h, h0, h1 => by
    have hb := hl b List.mem_cons_self
    rw [List.foldl_cons, List.foldl_cons]
    have e1 : jst x b = wrap64 (x * 256 + b) := or_low x b hb.1 hb.2
    have e2 : jsu y b = (y * 256 + b) % 18446744073709551616 := by
      unfold jsu
      rw [IntKind.wrap_u64, IntKind.wrap_u64]
      omega
    refine join_eq l (fun c hc => hl c (List.mem_cons_of_mem _ hc)) _ _ ?_ ?_ ?_
    · rw [e1, e2, ← h]
      unfold wrap64
      omega
    · rw [e2]; omega
    · rw [e2]; omega
end Go.Proofs.YtmjnepficndpfaaDoor.Dig
