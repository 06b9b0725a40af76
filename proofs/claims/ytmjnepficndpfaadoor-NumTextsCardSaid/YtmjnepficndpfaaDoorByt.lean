/- Bytes of numbers: the walks. -/
import Derived.Test.YtmjnepficndpfaaDoorDig
set_option linter.unusedSimpArgs false
set_option linter.unusedVariables false
namespace Go.Proofs.YtmjnepficndpfaaDoor.Dig
open Go.RowKit
/-- A byte of a number, the highest first. -/
def byt (a : Int) (j : Nat) : Int := a / 2 ^ (56 - 8 * j) % 256
def zs : List Value := [.int .u8 0, .int .u8 0, .int .u8 0, .int .u8 0, .int .u8 0, .int .u8 0, .int .u8 0, .int .u8 0]
/-- The bytes; the first i of them. -/
def bys (a : Int) (i : Nat) : List Value := (List.range 8).map (fun j => if j < i then Value.int .u8 (byt a j) else .int .u8 0)
theorem bys_len (a : Int) (i : Nat) : (bys a i).length = 8 := by simp [bys]
theorem bys_set (a : Int) {i : Nat} (hi : i < 8) : (bys a i).set i (.int .u8 (byt a i)) = bys a (i + 1) := by
  apply List.ext_getElem
  · simp [bys]
  · intro j h1 h2
    simp only [bys, List.getElem_set, List.getElem_map, List.getElem_range]
    by_cases e : i = j
    · subst e; simp
    · rw [if_neg e]
      by_cases q : j < i
      · rw [if_pos q, if_pos (by omega)]
      · rw [if_neg q, if_neg (by omega)]
theorem Arr.other {w : World} {B T : Nat} {cs : List Value} (h : Arr w B T cs) {C : Nat} (hC : B ≠ C) (i : Nat) (v : Value) : Arr (w.setCell ⟨C, i, none⟩ v) B T cs := by
  unfold Arr at h ⊢
  rw [Below.heap_setCell _ _ _ _ hC, h]
def agg8 (a : Int) : Value := .agg #[.int .u8 (byt a 0), .int .u8 (byt a 1), .int .u8 (byt a 2), .int .u8 (byt a 3), .int .u8 (byt a 4), .int .u8 (byt a 5), .int .u8 (byt a 6), .int .u8 (byt a 7)]
set_option maxHeartbeats 2000000 in
theorem nbytes_ok (a : Int) (w : World) (h0 : -9223372036854775808 ≤ a) (h1 : a ≤ 9223372036854775807) :
    Calls Tryd.prog 9 #[.int .i64 a] w fun e w' => e = .returned (agg8 a) ∧ Below w.heap.size w w' := by
  go_enter Tryd.func9, Tryd.ntmps9
  go_wp2
  have hA : Arr ((w.alloc (.cells #[.int .u8 0, .int .u8 0, .int .u8 0, .int .u8 0, .int .u8 0, .int .u8 0, .int .u8 0, .int .u8 0] 23)).alloc (.cells #[.int .u8 0, .int .u8 0, .int .u8 0, .int .u8 0, .int .u8 0, .int .u8 0, .int .u8 0, .int .u8 0] 23)) (w.heap.size + 1) 23 zs := by
    have := Arr.new (w.alloc (.cells #[.int .u8 0, .int .u8 0, .int .u8 0, .int .u8 0, .int .u8 0, .int .u8 0, .int .u8 0, .int .u8 0] 23)) 23 zs
    rw [World.size_alloc] at this
    exact this
  have hC : Arr ((w.alloc (.cells #[.int .u8 0, .int .u8 0, .int .u8 0, .int .u8 0, .int .u8 0, .int .u8 0, .int .u8 0, .int .u8 0] 23)).alloc (.cells #[.int .u8 0, .int .u8 0, .int .u8 0, .int .u8 0, .int .u8 0, .int .u8 0, .int .u8 0, .int .u8 0] 23)) w.heap.size 23 zs := by
    unfold Arr
    rw [Below.heap_alloc _ _ _ (by simp)]
    exact heap_alloc_new _ _
  have hB0 : Below w.heap.size w ((w.alloc (.cells #[.int .u8 0, .int .u8 0, .int .u8 0, .int .u8 0, .int .u8 0, .int .u8 0, .int .u8 0, .int .u8 0] 23)).alloc (.cells #[.int .u8 0, .int .u8 0, .int .u8 0, .int .u8 0, .int .u8 0, .int .u8 0, .int .u8 0, .int .u8 0] 23)) := ((Below.refl _ w).alloc (Nat.le_refl _) _).alloc (by simp) _
  generalize (w.alloc (.cells #[.int .u8 0, .int .u8 0, .int .u8 0, .int .u8 0, .int .u8 0, .int .u8 0, .int .u8 0, .int .u8 0] 23)).alloc (.cells #[.int .u8 0, .int .u8 0, .int .u8 0, .int .u8 0, .int .u8 0, .int .u8 0, .int .u8 0, .int .u8 0] 23) = W0 at hA hC hB0 ⊢
  have HA0 := Lib.hid hA
  have HC0 := Lib.hid hC
  have HB0 := Lib.hid hB0
  clear hA hC hB0
  go_loopw [5] (fun v5 wr => ∃ i : Nat, i ≤ 8 ∧ v5 = .int .i64 i ∧ Arr wr (w.heap.size + 1) 23 (bys a i) ∧ Arr wr w.heap.size 23 zs ∧ Below w.heap.size w wr) (fun v5 _ => 8 - (intOf v5).toNat)
  case atStart => exact ⟨0, by decide, rfl, HA0.out, HC0.out, HB0.out⟩
  case round =>
    obtain ⟨i, hi, rfl, hA, hC, hb⟩ := hrel
    have HA := Lib.hid hA
    have HC := Lib.hid hC
    have HB := Lib.hid hb
    clear hA hC hb
    by_cases hlt : i < 8
    · have c0 := HA.out.cell i (by rw [bys_len]; exact hlt)
      have f0 := HA.out.free i
      generalize (bys a i)[i] = u at c0
      go_wp2
      refine ⟨⟨i + 1, by omega, by go_num, ?_, HC.out.other (by omega) _ _, HB.out.setCell (p := ⟨w.heap.size + 1, i, none⟩) (Nat.le_succ _) _⟩, by simp [intOf]; omega⟩
      have := HA.out.set i (.int .u8 (byt a i))
      rw [bys_set a hlt] at this
      exact this
    · obtain rfl : i = 8 := by omega
      have c0 := HA.out.cell 0 (by rw [bys_len]; decide)
      have c1 := HA.out.cell 1 (by rw [bys_len]; decide)
      have c2 := HA.out.cell 2 (by rw [bys_len]; decide)
      have c3 := HA.out.cell 3 (by rw [bys_len]; decide)
      have c4 := HA.out.cell 4 (by rw [bys_len]; decide)
      have c5 := HA.out.cell 5 (by rw [bys_len]; decide)
      have c6 := HA.out.cell 6 (by rw [bys_len]; decide)
      have c7 := HA.out.cell 7 (by rw [bys_len]; decide)
      rw [show (bys a 8)[0]'(by rw [bys_len]; decide) = .int .u8 (byt a 0) by simp [bys]] at c0
      rw [show (bys a 8)[1]'(by rw [bys_len]; decide) = .int .u8 (byt a 1) by simp [bys]] at c1
      rw [show (bys a 8)[2]'(by rw [bys_len]; decide) = .int .u8 (byt a 2) by simp [bys]] at c2
      rw [show (bys a 8)[3]'(by rw [bys_len]; decide) = .int .u8 (byt a 3) by simp [bys]] at c3
      rw [show (bys a 8)[4]'(by rw [bys_len]; decide) = .int .u8 (byt a 4) by simp [bys]] at c4
      rw [show (bys a 8)[5]'(by rw [bys_len]; decide) = .int .u8 (byt a 5) by simp [bys]] at c5
      rw [show (bys a 8)[6]'(by rw [bys_len]; decide) = .int .u8 (byt a 6) by simp [bys]] at c6
      rw [show (bys a 8)[7]'(by rw [bys_len]; decide) = .int .u8 (byt a 7) by simp [bys]] at c7
      have d0 := HC.out.cell 0 (by decide)
      have f0 := HC.out.free 0
      have d1 := HC.out.cell 1 (by decide)
      have f1 := HC.out.free 1
      have d2 := HC.out.cell 2 (by decide)
      have f2 := HC.out.free 2
      have d3 := HC.out.cell 3 (by decide)
      have f3 := HC.out.free 3
      have d4 := HC.out.cell 4 (by decide)
      have f4 := HC.out.free 4
      have d5 := HC.out.cell 5 (by decide)
      have f5 := HC.out.free 5
      have d6 := HC.out.cell 6 (by decide)
      have f6 := HC.out.free 6
      have d7 := HC.out.cell 7 (by decide)
      have f7 := HC.out.free 7
      go_wp2
      have hF := ((((((((HC.out.set 0 (.int .u8 (byt a 0))).set 1 (.int .u8 (byt a 1))).set 2 (.int .u8 (byt a 2))).set 3 (.int .u8 (byt a 3))).set 4 (.int .u8 (byt a 4))).set 5 (.int .u8 (byt a 5))).set 6 (.int .u8 (byt a 6))).set 7 (.int .u8 (byt a 7)))
      have hB := ((((((((HB.out.setCell (p := ⟨w.heap.size, 0, none⟩) (Nat.le_refl _) (.int .u8 (byt a 0))).setCell (p := ⟨w.heap.size, 1, none⟩) (Nat.le_refl _) (.int .u8 (byt a 1))).setCell (p := ⟨w.heap.size, 2, none⟩) (Nat.le_refl _) (.int .u8 (byt a 2))).setCell (p := ⟨w.heap.size, 3, none⟩) (Nat.le_refl _) (.int .u8 (byt a 3))).setCell (p := ⟨w.heap.size, 4, none⟩) (Nat.le_refl _) (.int .u8 (byt a 4))).setCell (p := ⟨w.heap.size, 5, none⟩) (Nat.le_refl _) (.int .u8 (byt a 5))).setCell (p := ⟨w.heap.size, 6, none⟩) (Nat.le_refl _) (.int .u8 (byt a 6))).setCell (p := ⟨w.heap.size, 7, none⟩) (Nat.le_refl _) (.int .u8 (byt a 7)))
      exact bodyPost_ret (v := agg8 a) (results_cell_row rfl _ _ w.heap.size 23 _ _ (.array 8 5) rfl hF Tryd.underlying23 rfl (by kernel_rfl)) rfl ⟨rfl, hB⟩
/-- The bytes; those from k on. -/
def byd (a : Int) (k : Nat) : List Value := (List.range 8).map (fun j => if k ≤ j then Value.int .u8 (byt a j) else .int .u8 0)
theorem byd_len (a : Int) (i : Nat) : (byd a i).length = 8 := by simp [byd]
theorem byd_set (a : Int) {i : Nat} (hi : i < 8) : (byd a (i + 1)).set i (.int .u8 (byt a i)) = byd a i := by
  apply List.ext_getElem
  · simp [byd]
  · intro j h1 h2
    simp only [byd, List.getElem_set, List.getElem_map, List.getElem_range]
    by_cases e : i = j
    · subst e; simp
    · rw [if_neg e]
      by_cases q : i ≤ j
      · rw [if_pos q, if_pos (by omega)]
      · rw [if_neg q, if_neg (by omega)]
def up (a : Int) (m : Nat) : Int := a % 18446744073709551616 / 256 ^ m
theorem up_succ (a : Int) (m : Nat) : up a m / 256 = up a (m + 1) := by
  unfold up
  rw [Int.pow_succ, ← Int.ediv_ediv_of_nonneg (Int.pow_nonneg (by decide))]
theorem up_byt (a : Int) {q : Nat} (hq : q < 8) : up a (7 - q) % 256 = byt a q := by
  unfold up byt
  obtain h | h | h | h | h | h | h | h : q = 0 ∨ q = 1 ∨ q = 2 ∨ q = 3 ∨ q = 4 ∨ q = 5 ∨ q = 6 ∨ q = 7 := by omega
  all_goals (subst h; simp only [Nat.reduceSub, Nat.reduceMul, Int.reducePow, Nat.sub_zero, Nat.sub_self, Int.pow_zero, Int.ediv_one, Nat.mul_zero]; omega)
set_option maxHeartbeats 2000000 in
theorem rbytes_ok (a : Int) (w : World) (h0 : -9223372036854775808 ≤ a) (h1 : a ≤ 9223372036854775807) :
    Calls Tryd.prog 10 #[.int .i64 a] w fun e w' => e = .returned (agg8 a) ∧ Below w.heap.size w w' := by
  have hu : IntKind.u64.wrap a = up a 0 := by rw [IntKind.wrap_u64]; unfold up; simp
  go_enter Tryd.func10, Tryd.ntmps10
  go_wp2
  have hA : Arr ((w.alloc (.cells #[.int .u8 0, .int .u8 0, .int .u8 0, .int .u8 0, .int .u8 0, .int .u8 0, .int .u8 0, .int .u8 0] 23)).alloc (.cells #[.int .u8 0, .int .u8 0, .int .u8 0, .int .u8 0, .int .u8 0, .int .u8 0, .int .u8 0, .int .u8 0] 23)) (w.heap.size + 1) 23 zs := by
    have := Arr.new (w.alloc (.cells #[.int .u8 0, .int .u8 0, .int .u8 0, .int .u8 0, .int .u8 0, .int .u8 0, .int .u8 0, .int .u8 0] 23)) 23 zs
    rw [World.size_alloc] at this
    exact this
  have hC : Arr ((w.alloc (.cells #[.int .u8 0, .int .u8 0, .int .u8 0, .int .u8 0, .int .u8 0, .int .u8 0, .int .u8 0, .int .u8 0] 23)).alloc (.cells #[.int .u8 0, .int .u8 0, .int .u8 0, .int .u8 0, .int .u8 0, .int .u8 0, .int .u8 0, .int .u8 0] 23)) w.heap.size 23 zs := by
    unfold Arr
    rw [Below.heap_alloc _ _ _ (by simp)]
    exact heap_alloc_new _ _
  have hB0 : Below w.heap.size w ((w.alloc (.cells #[.int .u8 0, .int .u8 0, .int .u8 0, .int .u8 0, .int .u8 0, .int .u8 0, .int .u8 0, .int .u8 0] 23)).alloc (.cells #[.int .u8 0, .int .u8 0, .int .u8 0, .int .u8 0, .int .u8 0, .int .u8 0, .int .u8 0, .int .u8 0] 23)) := ((Below.refl _ w).alloc (Nat.le_refl _) _).alloc (by simp) _
  generalize (w.alloc (.cells #[.int .u8 0, .int .u8 0, .int .u8 0, .int .u8 0, .int .u8 0, .int .u8 0, .int .u8 0, .int .u8 0] 23)).alloc (.cells #[.int .u8 0, .int .u8 0, .int .u8 0, .int .u8 0, .int .u8 0, .int .u8 0, .int .u8 0, .int .u8 0] 23) = W0 at hA hC hB0 ⊢
  have HA0 := Lib.hid hA
  have HC0 := Lib.hid hC
  have HB0 := Lib.hid hB0
  clear hA hC hB0
  have HU := Lib.hid hu
  clear hu
  go_loopw [4, 5] (fun v4 v5 wr => ∃ k : Nat, k ≤ 8 ∧ v4 = .int .u64 (up a (8 - k)) ∧ v5 = .int .i64 ((k : Int) - 1) ∧ Arr wr (w.heap.size + 1) 23 (byd a k) ∧ Arr wr w.heap.size 23 zs ∧ Below w.heap.size w wr) (fun _ v5 _ => (intOf v5 + 1).toNat)
  case atStart => exact ⟨8, by decide, rfl, rfl, HA0.out, HC0.out, HB0.out⟩
  case round =>
    obtain ⟨k, hk, rfl, rfl, hA, hC, hb⟩ := hrel
    have HA := Lib.hid hA
    have HC := Lib.hid hC
    have HB := Lib.hid hb
    clear hA hC hb
    cases k with
    | zero =>
      have c0 := HA.out.cell 0 (by rw [byd_len]; decide)
      have c1 := HA.out.cell 1 (by rw [byd_len]; decide)
      have c2 := HA.out.cell 2 (by rw [byd_len]; decide)
      have c3 := HA.out.cell 3 (by rw [byd_len]; decide)
      have c4 := HA.out.cell 4 (by rw [byd_len]; decide)
      have c5 := HA.out.cell 5 (by rw [byd_len]; decide)
      have c6 := HA.out.cell 6 (by rw [byd_len]; decide)
      have c7 := HA.out.cell 7 (by rw [byd_len]; decide)
      rw [show (byd a 0)[0]'(by rw [byd_len]; decide) = .int .u8 (byt a 0) by simp [byd]] at c0
      rw [show (byd a 0)[1]'(by rw [byd_len]; decide) = .int .u8 (byt a 1) by simp [byd]] at c1
      rw [show (byd a 0)[2]'(by rw [byd_len]; decide) = .int .u8 (byt a 2) by simp [byd]] at c2
      rw [show (byd a 0)[3]'(by rw [byd_len]; decide) = .int .u8 (byt a 3) by simp [byd]] at c3
      rw [show (byd a 0)[4]'(by rw [byd_len]; decide) = .int .u8 (byt a 4) by simp [byd]] at c4
      rw [show (byd a 0)[5]'(by rw [byd_len]; decide) = .int .u8 (byt a 5) by simp [byd]] at c5
      rw [show (byd a 0)[6]'(by rw [byd_len]; decide) = .int .u8 (byt a 6) by simp [byd]] at c6
      rw [show (byd a 0)[7]'(by rw [byd_len]; decide) = .int .u8 (byt a 7) by simp [byd]] at c7
      have d0 := HC.out.cell 0 (by decide)
      have f0 := HC.out.free 0
      have d1 := HC.out.cell 1 (by decide)
      have f1 := HC.out.free 1
      have d2 := HC.out.cell 2 (by decide)
      have f2 := HC.out.free 2
      have d3 := HC.out.cell 3 (by decide)
      have f3 := HC.out.free 3
      have d4 := HC.out.cell 4 (by decide)
      have f4 := HC.out.free 4
      have d5 := HC.out.cell 5 (by decide)
      have f5 := HC.out.free 5
      have d6 := HC.out.cell 6 (by decide)
      have f6 := HC.out.free 6
      have d7 := HC.out.cell 7 (by decide)
      have f7 := HC.out.free 7
      go_wp2
      have hF := ((((((((HC.out.set 0 (.int .u8 (byt a 0))).set 1 (.int .u8 (byt a 1))).set 2 (.int .u8 (byt a 2))).set 3 (.int .u8 (byt a 3))).set 4 (.int .u8 (byt a 4))).set 5 (.int .u8 (byt a 5))).set 6 (.int .u8 (byt a 6))).set 7 (.int .u8 (byt a 7)))
      have hB := ((((((((HB.out.setCell (p := ⟨w.heap.size, 0, none⟩) (Nat.le_refl _) (.int .u8 (byt a 0))).setCell (p := ⟨w.heap.size, 1, none⟩) (Nat.le_refl _) (.int .u8 (byt a 1))).setCell (p := ⟨w.heap.size, 2, none⟩) (Nat.le_refl _) (.int .u8 (byt a 2))).setCell (p := ⟨w.heap.size, 3, none⟩) (Nat.le_refl _) (.int .u8 (byt a 3))).setCell (p := ⟨w.heap.size, 4, none⟩) (Nat.le_refl _) (.int .u8 (byt a 4))).setCell (p := ⟨w.heap.size, 5, none⟩) (Nat.le_refl _) (.int .u8 (byt a 5))).setCell (p := ⟨w.heap.size, 6, none⟩) (Nat.le_refl _) (.int .u8 (byt a 6))).setCell (p := ⟨w.heap.size, 7, none⟩) (Nat.le_refl _) (.int .u8 (byt a 7)))
      exact bodyPost_ret (v := agg8 a) (results_cell_row rfl _ _ w.heap.size 23 _ _ (.array 8 5) rfl hF Tryd.underlying23 rfl (by kernel_rfl)) rfl ⟨rfl, hB⟩
    | succ q =>
      have hq : q < 8 := by omega
      rw [show ((q + 1 : Nat) : Int) - 1 = (q : Int) by omega, show 8 - (q + 1) = 7 - q by omega]
      have c0 := HA.out.cell q (by rw [byd_len]; exact hq)
      have f0 := HA.out.free q
      generalize (byd a (q + 1))[q] = u at c0
      obtain ⟨U, hU⟩ : ∃ U, U = up a (7 - q) := ⟨_, rfl⟩
      have hU0 : 0 ≤ U ∧ U < 18446744073709551616 := by
        rw [hU]
        unfold up
        have hp : (0 : Int) < 256 ^ (7 - q) := Int.pow_pos (by decide)
        have h2 : (0 : Int) ≤ a % 18446744073709551616 := Int.emod_nonneg _ (by decide)
        have h3 : a % 18446744073709551616 < 18446744073709551616 := Int.emod_lt_of_pos _ (by decide)
        exact ⟨Int.ediv_nonneg h2 (by omega), Int.lt_of_le_of_lt (Int.ediv_le_self _ h2) h3⟩
      rw [← hU]
      have HUE := Lib.hid hU
      clear hU
      go_wp2
      refine ⟨⟨q, by omega, ?_, rfl, ?_, HC.out.other (by omega) _ _, HB.out.setCell (p := ⟨w.heap.size + 1, q, none⟩) (Nat.le_succ _) _⟩, by simp [intOf]⟩
      · rw [HUE.out, up_succ, show 7 - q + 1 = 8 - q by omega]
      · have := HA.out.set q (.int .u8 (byt a q))
        rw [byd_set a hq, ← up_byt a hq, ← HUE.out] at this
        exact this
end Go.Proofs.YtmjnepficndpfaaDoor.Dig
