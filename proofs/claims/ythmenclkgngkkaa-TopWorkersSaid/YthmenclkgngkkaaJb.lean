/- Arr8, Byt, Jn, Jb -/
import Derived.Test.YthmenclkgngkkaaProg
import Derived.WalkKit
import Derived.Below
import Derived.LoopTactic
import Derived.Outline
import Derived.OwnWalk
import Derived.Laws.Rows
import Derived.Laws.IdiomStrings
import Derived.Lib.Hide
section
/- Arrays of their own. -/
namespace Go.Proofs.Ythmenclkgngkkaa.Dig
open Go.RowKit
def Arr (w : World) (B : Nat) (T : Nat) (cs : List Value) : Prop := w.heap[B]? = some (.cells cs.toArray T (0, 0))

theorem Arr.cell {w : World} {B T : Nat} {cs : List Value} (h : Arr w B T cs) (i : Nat) (hi : i < cs.length) : w.cell? ⟨B, i, none⟩ = some cs[i] := by
  unfold Arr at h
  simp [World.cell?, h, hi]
theorem Arr.free {w : World} {B T : Nat} {cs : List Value} (h : Arr w B T cs) (i : Nat) : w.frozen? ⟨B, i, none⟩ = false := by
  unfold Arr at h
  simp [World.frozen?, h]
theorem Arr.set {w : World} {B T : Nat} {cs : List Value} (h : Arr w B T cs) (i : Nat) (v : Value) : Arr (w.setCell ⟨B, i, none⟩ v) B T (cs.set i v) := by
  unfold Arr at h ⊢
  simp [World.setCell, Array.getElem?_modify, h]
theorem Arr.new (w : World) (T : Nat) (cs : List Value) : Arr (w.alloc (.cells cs.toArray T (0, 0))) w.heap.size T cs := by
  unfold Arr
  show (w.heap.push _)[w.heap.size]? = _
  simp

end Go.Proofs.Ythmenclkgngkkaa.Dig
end
section
/- Bytes of numbers: the walks. -/
set_option linter.unusedSimpArgs false
set_option linter.unusedVariables false
namespace Go.Proofs.Ythmenclkgngkkaa.Dig
open Go.RowKit
def byt (a : Int) (j : Nat) : Int := a / 2 ^ (56 - 8 * j) % 256
def zs : List Value := [.int .u8 0, .int .u8 0, .int .u8 0, .int .u8 0, .int .u8 0, .int .u8 0, .int .u8 0, .int .u8 0]
def bys (a : Int) (i : Nat) : List Value := (List.range 8).map (fun j => if j < i then Value.int .u8 (byt a j) else .int .u8 0)
theorem bys_len (a : Int) (i : Nat) : (bys a i).length = 8 := by simp [bys]
theorem bys_set (a : Int) {i : Nat} (hi : i < 8) : (bys a i).set i (.int .u8 (byt a i)) = bys a (i + 1) := by
  apply List.ext_getElem
  · simp [bys]
  · intro j h1 h2
    simp only [bys, List.getElem_set, List.getElem_map, List.getElem_range]
    by_cases e : i = j
    · subst e; simp
    · rw [if_neg e]
      by_cases q : j < i
      · rw [if_pos q, if_pos (by omega)]
      · rw [if_neg q, if_neg (by omega)]
theorem Arr.other {w : World} {B T : Nat} {cs : List Value} (h : Arr w B T cs) {C : Nat} (hC : B ≠ C) (i : Nat) (v : Value) : Arr (w.setCell ⟨C, i, none⟩ v) B T cs := by
  unfold Arr at h ⊢
  rw [Below.heap_setCell _ _ _ _ hC, h]
def agg8 (a : Int) : Value := .agg #[.int .u8 (byt a 0), .int .u8 (byt a 1), .int .u8 (byt a 2), .int .u8 (byt a 3), .int .u8 (byt a 4), .int .u8 (byt a 5), .int .u8 (byt a 6), .int .u8 (byt a 7)]
set_option maxHeartbeats 2000000 in
theorem nbytes_ok (a : Int) (w : World) (h0 : -9223372036854775808 ≤ a) (h1 : a ≤ 9223372036854775807) :
    Calls Try.prog 36 #[.int .i64 a] w fun e w' => e = .returned (agg8 a) ∧ Below w.heap.size w w' := by
  go_enter Try.func36, Try.ntmps36
  go_wp2
  have hA : Arr ((w.alloc (.cells #[.int .u8 0, .int .u8 0, .int .u8 0, .int .u8 0, .int .u8 0, .int .u8 0, .int .u8 0, .int .u8 0] 63)).alloc (.cells #[.int .u8 0, .int .u8 0, .int .u8 0, .int .u8 0, .int .u8 0, .int .u8 0, .int .u8 0, .int .u8 0] 63)) (w.heap.size + 1) 63 zs := by
    have := Arr.new (w.alloc (.cells #[.int .u8 0, .int .u8 0, .int .u8 0, .int .u8 0, .int .u8 0, .int .u8 0, .int .u8 0, .int .u8 0] 63)) 63 zs
    rw [World.size_alloc] at this
    exact this
  have hC : Arr ((w.alloc (.cells #[.int .u8 0, .int .u8 0, .int .u8 0, .int .u8 0, .int .u8 0, .int .u8 0, .int .u8 0, .int .u8 0] 63)).alloc (.cells #[.int .u8 0, .int .u8 0, .int .u8 0, .int .u8 0, .int .u8 0, .int .u8 0, .int .u8 0, .int .u8 0] 63)) w.heap.size 63 zs := by
    unfold Arr
    rw [Below.heap_alloc _ _ _ (by simp)]
    exact heap_alloc_new _ _
  have hB0 : Below w.heap.size w ((w.alloc (.cells #[.int .u8 0, .int .u8 0, .int .u8 0, .int .u8 0, .int .u8 0, .int .u8 0, .int .u8 0, .int .u8 0] 63)).alloc (.cells #[.int .u8 0, .int .u8 0, .int .u8 0, .int .u8 0, .int .u8 0, .int .u8 0, .int .u8 0, .int .u8 0] 63)) := ((Below.refl _ w).alloc (Nat.le_refl _) _).alloc (by simp) _
  generalize (w.alloc (.cells #[.int .u8 0, .int .u8 0, .int .u8 0, .int .u8 0, .int .u8 0, .int .u8 0, .int .u8 0, .int .u8 0] 63)).alloc (.cells #[.int .u8 0, .int .u8 0, .int .u8 0, .int .u8 0, .int .u8 0, .int .u8 0, .int .u8 0, .int .u8 0] 63) = W0 at hA hC hB0 ⊢
  have HA0 := Lib.hid hA
  have HC0 := Lib.hid hC
  have HB0 := Lib.hid hB0
  clear hA hC hB0
  go_loopw [5] (fun v5 wr => ∃ i : Nat, i ≤ 8 ∧ v5 = .int .i64 i ∧ Arr wr (w.heap.size + 1) 63 (bys a i) ∧ Arr wr w.heap.size 63 zs ∧ Below w.heap.size w wr) (fun v5 _ => 8 - (intOf v5).toNat)
  case atStart => exact ⟨0, by decide, rfl, HA0.out, HC0.out, HB0.out⟩
  case round =>
    obtain ⟨i, hi, rfl, hA, hC, hb⟩ := hrel
    have HA := Lib.hid hA
    have HC := Lib.hid hC
    have HB := Lib.hid hb
    clear hA hC hb
    by_cases hlt : i < 8
    · have c0 := HA.out.cell i (by rw [bys_len]; exact hlt)
      have f0 := HA.out.free i
      generalize (bys a i)[i] = u at c0
      go_wp2
      refine ⟨⟨i + 1, by omega, by go_num, ?_, HC.out.other (by omega) _ _, HB.out.setCell (p := ⟨w.heap.size + 1, i, none⟩) (Nat.le_succ _) _⟩, by simp [intOf]; omega⟩
      have := HA.out.set i (.int .u8 (byt a i))
      rw [bys_set a hlt] at this
      exact this
    · obtain rfl : i = 8 := by omega
      have c0 := HA.out.cell 0 (by rw [bys_len]; decide)
      have c1 := HA.out.cell 1 (by rw [bys_len]; decide)
      have c2 := HA.out.cell 2 (by rw [bys_len]; decide)
      have c3 := HA.out.cell 3 (by rw [bys_len]; decide)
      have c4 := HA.out.cell 4 (by rw [bys_len]; decide)
      have c5 := HA.out.cell 5 (by rw [bys_len]; decide)
      have c6 := HA.out.cell 6 (by rw [bys_len]; decide)
      have c7 := HA.out.cell 7 (by rw [bys_len]; decide)
      rw [show (bys a 8)[0]'(by rw [bys_len]; decide) = .int .u8 (byt a 0) by simp [bys]] at c0
      rw [show (bys a 8)[1]'(by rw [bys_len]; decide) = .int .u8 (byt a 1) by simp [bys]] at c1
      rw [show (bys a 8)[2]'(by rw [bys_len]; decide) = .int .u8 (byt a 2) by simp [bys]] at c2
      rw [show (bys a 8)[3]'(by rw [bys_len]; decide) = .int .u8 (byt a 3) by simp [bys]] at c3
      rw [show (bys a 8)[4]'(by rw [bys_len]; decide) = .int .u8 (byt a 4) by simp [bys]] at c4
      rw [show (bys a 8)[5]'(by rw [bys_len]; decide) = .int .u8 (byt a 5) by simp [bys]] at c5
      rw [show (bys a 8)[6]'(by rw [bys_len]; decide) = .int .u8 (byt a 6) by simp [bys]] at c6
      rw [show (bys a 8)[7]'(by rw [bys_len]; decide) = .int .u8 (byt a 7) by simp [bys]] at c7
      have d0 := HC.out.cell 0 (by decide)
      have f0 := HC.out.free 0
      have d1 := HC.out.cell 1 (by decide)
      have f1 := HC.out.free 1
      have d2 := HC.out.cell 2 (by decide)
      have f2 := HC.out.free 2
      have d3 := HC.out.cell 3 (by decide)
      have f3 := HC.out.free 3
      have d4 := HC.out.cell 4 (by decide)
      have f4 := HC.out.free 4
      have d5 := HC.out.cell 5 (by decide)
      have f5 := HC.out.free 5
      have d6 := HC.out.cell 6 (by decide)
      have f6 := HC.out.free 6
      have d7 := HC.out.cell 7 (by decide)
      have f7 := HC.out.free 7
      go_wp2
      have hF := ((((((((HC.out.set 0 (.int .u8 (byt a 0))).set 1 (.int .u8 (byt a 1))).set 2 (.int .u8 (byt a 2))).set 3 (.int .u8 (byt a 3))).set 4 (.int .u8 (byt a 4))).set 5 (.int .u8 (byt a 5))).set 6 (.int .u8 (byt a 6))).set 7 (.int .u8 (byt a 7)))
      have hB := ((((((((HB.out.setCell (p := ⟨w.heap.size, 0, none⟩) (Nat.le_refl _) (.int .u8 (byt a 0))).setCell (p := ⟨w.heap.size, 1, none⟩) (Nat.le_refl _) (.int .u8 (byt a 1))).setCell (p := ⟨w.heap.size, 2, none⟩) (Nat.le_refl _) (.int .u8 (byt a 2))).setCell (p := ⟨w.heap.size, 3, none⟩) (Nat.le_refl _) (.int .u8 (byt a 3))).setCell (p := ⟨w.heap.size, 4, none⟩) (Nat.le_refl _) (.int .u8 (byt a 4))).setCell (p := ⟨w.heap.size, 5, none⟩) (Nat.le_refl _) (.int .u8 (byt a 5))).setCell (p := ⟨w.heap.size, 6, none⟩) (Nat.le_refl _) (.int .u8 (byt a 6))).setCell (p := ⟨w.heap.size, 7, none⟩) (Nat.le_refl _) (.int .u8 (byt a 7)))
      exact bodyPost_ret (v := agg8 a) (results_cell_row rfl _ _ w.heap.size 63 _ _ (.array 8 5) rfl hF Try.underlying63 rfl (by kernel_rfl)) rfl ⟨rfl, hB⟩
def byd (a : Int) (k : Nat) : List Value := (List.range 8).map (fun j => if k ≤ j then Value.int .u8 (byt a j) else .int .u8 0)
theorem byd_len (a : Int) (i : Nat) : (byd a i).length = 8 := by simp [byd]
theorem byd_set (a : Int) {i : Nat} (hi : i < 8) : (byd a (i + 1)).set i (.int .u8 (byt a i)) = byd a i := by
  apply List.ext_getElem
  · simp [byd]
  · intro j h1 h2
    simp only [byd, List.getElem_set, List.getElem_map, List.getElem_range]
    by_cases e : i = j
    · subst e; simp
    · rw [if_neg e]
      by_cases q : i ≤ j
      · rw [if_pos q, if_pos (by omega)]
      · rw [if_neg q, if_neg (by omega)]
def up (a : Int) (m : Nat) : Int := a % 18446744073709551616 / 256 ^ m
theorem up_succ (a : Int) (m : Nat) : up a m / 256 = up a (m + 1) := by
  unfold up
  rw [Int.pow_succ, ← Int.ediv_ediv_of_nonneg (Int.pow_nonneg (by decide))]
theorem up_byt (a : Int) {q : Nat} (hq : q < 8) : up a (7 - q) % 256 = byt a q := by
  unfold up byt
  obtain h | h | h | h | h | h | h | h : q = 0 ∨ q = 1 ∨ q = 2 ∨ q = 3 ∨ q = 4 ∨ q = 5 ∨ q = 6 ∨ q = 7 := by omega
  all_goals (subst h; simp only [Nat.reduceSub, Nat.reduceMul, Int.reducePow, Nat.sub_zero, Nat.sub_self, Int.pow_zero, Int.ediv_one, Nat.mul_zero]; omega)
set_option maxHeartbeats 2000000 in
theorem rbytes_ok (a : Int) (w : World) (h0 : -9223372036854775808 ≤ a) (h1 : a ≤ 9223372036854775807) :
    Calls Try.prog 50 #[.int .i64 a] w fun e w' => e = .returned (agg8 a) ∧ Below w.heap.size w w' := by
  have hu : IntKind.u64.wrap a = up a 0 := by rw [IntKind.wrap_u64]; unfold up; simp
  go_enter Try.func50, Try.ntmps50
  go_wp2
  have hA : Arr ((w.alloc (.cells #[.int .u8 0, .int .u8 0, .int .u8 0, .int .u8 0, .int .u8 0, .int .u8 0, .int .u8 0, .int .u8 0] 63)).alloc (.cells #[.int .u8 0, .int .u8 0, .int .u8 0, .int .u8 0, .int .u8 0, .int .u8 0, .int .u8 0, .int .u8 0] 63)) (w.heap.size + 1) 63 zs := by
    have := Arr.new (w.alloc (.cells #[.int .u8 0, .int .u8 0, .int .u8 0, .int .u8 0, .int .u8 0, .int .u8 0, .int .u8 0, .int .u8 0] 63)) 63 zs
    rw [World.size_alloc] at this
    exact this
  have hC : Arr ((w.alloc (.cells #[.int .u8 0, .int .u8 0, .int .u8 0, .int .u8 0, .int .u8 0, .int .u8 0, .int .u8 0, .int .u8 0] 63)).alloc (.cells #[.int .u8 0, .int .u8 0, .int .u8 0, .int .u8 0, .int .u8 0, .int .u8 0, .int .u8 0, .int .u8 0] 63)) w.heap.size 63 zs := by
    unfold Arr
    rw [Below.heap_alloc _ _ _ (by simp)]
    exact heap_alloc_new _ _
  have hB0 : Below w.heap.size w ((w.alloc (.cells #[.int .u8 0, .int .u8 0, .int .u8 0, .int .u8 0, .int .u8 0, .int .u8 0, .int .u8 0, .int .u8 0] 63)).alloc (.cells #[.int .u8 0, .int .u8 0, .int .u8 0, .int .u8 0, .int .u8 0, .int .u8 0, .int .u8 0, .int .u8 0] 63)) := ((Below.refl _ w).alloc (Nat.le_refl _) _).alloc (by simp) _
  generalize (w.alloc (.cells #[.int .u8 0, .int .u8 0, .int .u8 0, .int .u8 0, .int .u8 0, .int .u8 0, .int .u8 0, .int .u8 0] 63)).alloc (.cells #[.int .u8 0, .int .u8 0, .int .u8 0, .int .u8 0, .int .u8 0, .int .u8 0, .int .u8 0, .int .u8 0] 63) = W0 at hA hC hB0 ⊢
  have HA0 := Lib.hid hA
  have HC0 := Lib.hid hC
  have HB0 := Lib.hid hB0
  clear hA hC hB0
  have HU := Lib.hid hu
  clear hu
  go_loopw [4, 5] (fun v4 v5 wr => ∃ k : Nat, k ≤ 8 ∧ v4 = .int .u64 (up a (8 - k)) ∧ v5 = .int .i64 ((k : Int) - 1) ∧ Arr wr (w.heap.size + 1) 63 (byd a k) ∧ Arr wr w.heap.size 63 zs ∧ Below w.heap.size w wr) (fun _ v5 _ => (intOf v5 + 1).toNat)
  case atStart => exact ⟨8, by decide, rfl, rfl, HA0.out, HC0.out, HB0.out⟩
  case round =>
    obtain ⟨k, hk, rfl, rfl, hA, hC, hb⟩ := hrel
    have HA := Lib.hid hA
    have HC := Lib.hid hC
    have HB := Lib.hid hb
    clear hA hC hb
    cases k with
    | zero =>
      have c0 := HA.out.cell 0 (by rw [byd_len]; decide)
      have c1 := HA.out.cell 1 (by rw [byd_len]; decide)
      have c2 := HA.out.cell 2 (by rw [byd_len]; decide)
      have c3 := HA.out.cell 3 (by rw [byd_len]; decide)
      have c4 := HA.out.cell 4 (by rw [byd_len]; decide)
      have c5 := HA.out.cell 5 (by rw [byd_len]; decide)
      have c6 := HA.out.cell 6 (by rw [byd_len]; decide)
      have c7 := HA.out.cell 7 (by rw [byd_len]; decide)
      rw [show (byd a 0)[0]'(by rw [byd_len]; decide) = .int .u8 (byt a 0) by simp [byd]] at c0
      rw [show (byd a 0)[1]'(by rw [byd_len]; decide) = .int .u8 (byt a 1) by simp [byd]] at c1
      rw [show (byd a 0)[2]'(by rw [byd_len]; decide) = .int .u8 (byt a 2) by simp [byd]] at c2
      rw [show (byd a 0)[3]'(by rw [byd_len]; decide) = .int .u8 (byt a 3) by simp [byd]] at c3
      rw [show (byd a 0)[4]'(by rw [byd_len]; decide) = .int .u8 (byt a 4) by simp [byd]] at c4
      rw [show (byd a 0)[5]'(by rw [byd_len]; decide) = .int .u8 (byt a 5) by simp [byd]] at c5
      rw [show (byd a 0)[6]'(by rw [byd_len]; decide) = .int .u8 (byt a 6) by simp [byd]] at c6
      rw [show (byd a 0)[7]'(by rw [byd_len]; decide) = .int .u8 (byt a 7) by simp [byd]] at c7
      have d0 := HC.out.cell 0 (by decide)
      have f0 := HC.out.free 0
      have d1 := HC.out.cell 1 (by decide)
      have f1 := HC.out.free 1
      have d2 := HC.out.cell 2 (by decide)
      have f2 := HC.out.free 2
      have d3 := HC.out.cell 3 (by decide)
      have f3 := HC.out.free 3
      have d4 := HC.out.cell 4 (by decide)
      have f4 := HC.out.free 4
      have d5 := HC.out.cell 5 (by decide)
      have f5 := HC.out.free 5
      have d6 := HC.out.cell 6 (by decide)
      have f6 := HC.out.free 6
      have d7 := HC.out.cell 7 (by decide)
      have f7 := HC.out.free 7
      go_wp2
      have hF := ((((((((HC.out.set 0 (.int .u8 (byt a 0))).set 1 (.int .u8 (byt a 1))).set 2 (.int .u8 (byt a 2))).set 3 (.int .u8 (byt a 3))).set 4 (.int .u8 (byt a 4))).set 5 (.int .u8 (byt a 5))).set 6 (.int .u8 (byt a 6))).set 7 (.int .u8 (byt a 7)))
      have hB := ((((((((HB.out.setCell (p := ⟨w.heap.size, 0, none⟩) (Nat.le_refl _) (.int .u8 (byt a 0))).setCell (p := ⟨w.heap.size, 1, none⟩) (Nat.le_refl _) (.int .u8 (byt a 1))).setCell (p := ⟨w.heap.size, 2, none⟩) (Nat.le_refl _) (.int .u8 (byt a 2))).setCell (p := ⟨w.heap.size, 3, none⟩) (Nat.le_refl _) (.int .u8 (byt a 3))).setCell (p := ⟨w.heap.size, 4, none⟩) (Nat.le_refl _) (.int .u8 (byt a 4))).setCell (p := ⟨w.heap.size, 5, none⟩) (Nat.le_refl _) (.int .u8 (byt a 5))).setCell (p := ⟨w.heap.size, 6, none⟩) (Nat.le_refl _) (.int .u8 (byt a 6))).setCell (p := ⟨w.heap.size, 7, none⟩) (Nat.le_refl _) (.int .u8 (byt a 7)))
      exact bodyPost_ret (v := agg8 a) (results_cell_row rfl _ _ w.heap.size 63 _ _ (.array 8 5) rfl hF Try.underlying63 rfl (by kernel_rfl)) rfl ⟨rfl, hB⟩
    | succ q =>
      have hq : q < 8 := by omega
      rw [show ((q + 1 : Nat) : Int) - 1 = (q : Int) by omega, show 8 - (q + 1) = 7 - q by omega]
      have c0 := HA.out.cell q (by rw [byd_len]; exact hq)
      have f0 := HA.out.free q
      generalize (byd a (q + 1))[q] = u at c0
      obtain ⟨U, hU⟩ : ∃ U, U = up a (7 - q) := ⟨_, rfl⟩
      have hU0 : 0 ≤ U ∧ U < 18446744073709551616 := by
        rw [hU]
        unfold up
        have hp : (0 : Int) < 256 ^ (7 - q) := Int.pow_pos (by decide)
        have h2 : (0 : Int) ≤ a % 18446744073709551616 := Int.emod_nonneg _ (by decide)
        have h3 : a % 18446744073709551616 < 18446744073709551616 := Int.emod_lt_of_pos _ (by decide)
        exact ⟨Int.ediv_nonneg h2 (by omega), Int.lt_of_le_of_lt (Int.ediv_le_self _ h2) h3⟩
      rw [← hU]
      have HUE := Lib.hid hU
      clear hU
      go_wp2
      refine ⟨⟨q, by omega, ?_, rfl, ?_, HC.out.other (by omega) _ _, HB.out.setCell (p := ⟨w.heap.size + 1, q, none⟩) (Nat.le_succ _) _⟩, by simp [intOf]⟩
      · rw [HUE.out, up_succ, show 7 - q + 1 = 8 - q by omega]
      · have := HA.out.set q (.int .u8 (byt a q))
        rw [byd_set a hq, ← up_byt a hq, ← HUE.out] at this
        exact this
end Go.Proofs.Ythmenclkgngkkaa.Dig
end
section
/- Numbers of bytes: the walks. -/
set_option linter.unusedSimpArgs false
set_option linter.unusedVariables false
namespace Go.Proofs.Ythmenclkgngkkaa.Dig
open Go.RowKit
def vals (bs : List Int) : List Value := bs.map (Value.int .u8)
def jst (x b : Int) : Int := Go.bits .or .i64 (wrap64 (x * 256)) b
set_option maxHeartbeats 2000000 in
theorem njoin_ok (b0 b1 b2 b3 b4 b5 b6 b7 : Int) (w : World) (hb : ∀ x ∈ [b0, b1, b2, b3, b4, b5, b6, b7], 0 ≤ x ∧ x < 256) :
    Calls Try.prog 38 #[.agg #[.int .u8 b0, .int .u8 b1, .int .u8 b2, .int .u8 b3, .int .u8 b4, .int .u8 b5, .int .u8 b6, .int .u8 b7]] w fun e w' => e = .returned (.int .i64 ([b0, b1, b2, b3, b4, b5, b6, b7].foldl jst 0)) ∧ Below w.heap.size w w' := by
  have HB := Lib.hid hb
  clear hb
  go_enter Try.func38, Try.ntmps38
  go_wp2
  have hA : Arr (w.alloc (.cells #[.int .u8 b0, .int .u8 b1, .int .u8 b2, .int .u8 b3, .int .u8 b4, .int .u8 b5, .int .u8 b6, .int .u8 b7] 63)) w.heap.size 63 (vals [b0, b1, b2, b3, b4, b5, b6, b7]) := Arr.new w 63 _
  have hB0 : Below w.heap.size w (w.alloc (.cells #[.int .u8 b0, .int .u8 b1, .int .u8 b2, .int .u8 b3, .int .u8 b4, .int .u8 b5, .int .u8 b6, .int .u8 b7] 63)) := (Below.refl _ w).alloc (Nat.le_refl _) _
  go_loopw [3, 5] (fun v3 v5 wr => ∃ i : Nat, i ≤ 8 ∧ v5 = .int .i64 i ∧ v3 = .int .i64 (([b0, b1, b2, b3, b4, b5, b6, b7].take i).foldl jst 0) ∧ Arr wr w.heap.size 63 (vals [b0, b1, b2, b3, b4, b5, b6, b7]) ∧ Below w.heap.size w wr) (fun _ v5 _ => 8 - (intOf v5).toNat)
  case atStart => exact ⟨0, by decide, rfl, rfl, hA, hB0⟩
  case round =>
    obtain ⟨i, hi, rfl, rfl, hA2, hb2⟩ := hrel
    obtain ⟨X, hX⟩ : ∃ X, X = ([b0, b1, b2, b3, b4, b5, b6, b7].take i).foldl jst 0 := ⟨_, rfl⟩
    rw [← hX]
    have HX := Lib.hid hX
    have HA2 := Lib.hid hA2
    have HB2 := Lib.hid hb2
    clear hX hA2 hb2 hA hB0
    by_cases hlt : i < 8
    · have c0 := HA2.out.cell i hlt
      obtain ⟨y, hy⟩ : ∃ y, y = [b0, b1, b2, b3, b4, b5, b6, b7][i] := ⟨_, rfl⟩
      have e : (vals [b0, b1, b2, b3, b4, b5, b6, b7])[i]'hlt = .int .u8 y := by rw [hy]; unfold vals; rw [List.getElem_map]
      rw [e] at c0
      have hyb := HB.out y (by rw [hy]; exact List.getElem_mem _)
      have HY := Lib.hid hy
      clear hy e
      go_wp2
      refine ⟨⟨i + 1, by omega, by go_num, ?_, HA2.out, HB2.out⟩, by simp [intOf]; omega⟩
      rw [List.take_succ_eq_append_getElem hlt, List.foldl_append, ← HX.out, ← HY.out]
      rfl
    · obtain rfl : i = 8 := by omega
      go_wp2
      go_ret
      exact ⟨by rw [HX.out]; rfl, HB2.out⟩
def jsu (x b : Int) : Int := IntKind.u64.wrap (IntKind.u64.wrap (x * 256) + b)
set_option maxHeartbeats 2000000 in
theorem rjoin_ok (b0 b1 b2 b3 b4 b5 b6 b7 : Int) (w : World) (hb : ∀ x ∈ [b0, b1, b2, b3, b4, b5, b6, b7], 0 ≤ x ∧ x < 256) :
    Calls Try.prog 51 #[.agg #[.int .u8 b0, .int .u8 b1, .int .u8 b2, .int .u8 b3, .int .u8 b4, .int .u8 b5, .int .u8 b6, .int .u8 b7]] w fun e w' => e = .returned (.int .i64 (wrap64 ([b0, b1, b2, b3, b4, b5, b6, b7].foldl jsu 0))) ∧ Below w.heap.size w w' := by
  have HB := Lib.hid hb
  clear hb
  go_enter Try.func51, Try.ntmps51
  go_wp2
  have hA : Arr (w.alloc (.cells #[.int .u8 b0, .int .u8 b1, .int .u8 b2, .int .u8 b3, .int .u8 b4, .int .u8 b5, .int .u8 b6, .int .u8 b7] 63)) w.heap.size 63 (vals [b0, b1, b2, b3, b4, b5, b6, b7]) := Arr.new w 63 _
  have hB0 : Below w.heap.size w (w.alloc (.cells #[.int .u8 b0, .int .u8 b1, .int .u8 b2, .int .u8 b3, .int .u8 b4, .int .u8 b5, .int .u8 b6, .int .u8 b7] 63)) := (Below.refl _ w).alloc (Nat.le_refl _) _
  go_loopw [3, 4] (fun v3 v5 wr => ∃ i : Nat, i ≤ 8 ∧ v5 = .int .i64 i ∧ v3 = .int .u64 (([b0, b1, b2, b3, b4, b5, b6, b7].take i).foldl jsu 0) ∧ Arr wr w.heap.size 63 (vals [b0, b1, b2, b3, b4, b5, b6, b7]) ∧ Below w.heap.size w wr) (fun _ v5 _ => 8 - (intOf v5).toNat)
  case atStart => exact ⟨0, by decide, rfl, rfl, hA, hB0⟩
  case round =>
    obtain ⟨i, hi, rfl, rfl, hA2, hb2⟩ := hrel
    obtain ⟨X, hX⟩ : ∃ X, X = ([b0, b1, b2, b3, b4, b5, b6, b7].take i).foldl jsu 0 := ⟨_, rfl⟩
    rw [← hX]
    have HX := Lib.hid hX
    have HA2 := Lib.hid hA2
    have HB2 := Lib.hid hb2
    clear hX hA2 hb2 hA hB0
    by_cases hlt : i < 8
    · have c0 := HA2.out.cell i hlt
      obtain ⟨y, hy⟩ : ∃ y, y = [b0, b1, b2, b3, b4, b5, b6, b7][i] := ⟨_, rfl⟩
      have e : (vals [b0, b1, b2, b3, b4, b5, b6, b7])[i]'hlt = .int .u8 y := by rw [hy]; unfold vals; rw [List.getElem_map]
      rw [e] at c0
      have hyb := HB.out y (by rw [hy]; exact List.getElem_mem _)
      have HY := Lib.hid hy
      clear hy e
      go_wp2
      refine ⟨⟨i + 1, by omega, by go_num, ?_, HA2.out, HB2.out⟩, by simp [intOf]; omega⟩
      rw [List.take_succ_eq_append_getElem hlt, List.foldl_append, ← HX.out, ← HY.out]
      rfl
    · obtain rfl : i = 8 := by omega
      go_wp2
      go_ret
      exact ⟨by rw [HX.out]; rfl, HB2.out⟩

theorem or_low (x b : Int) (hb0 : 0 ≤ b) (hb : b < 256) : Go.bits .or .i64 (wrap64 (x * 256)) b = wrap64 (x * 256 + b) := by
  show IntKind.i64.wrap ((BitVec.ofInt 64 (wrap64 (x * 256)) ||| BitVec.ofInt 64 b).toNat : Int) = _
  have h1 : ((BitVec.ofInt 64 (wrap64 (x * 256))).toNat : Int) = (x * 256) % 18446744073709551616 := by
    rw [BitVec.toNat_ofInt]
    unfold wrap64
    omega
  have h2 : (BitVec.ofInt 64 b).toNat = b.toNat := by
    rw [BitVec.toNat_ofInt]
    omega
  obtain ⟨Y, hY⟩ : ∃ Y, Y = (BitVec.ofInt 64 (wrap64 (x * 256))).toNat := ⟨_, rfl⟩
  rw [BitVec.toNat_or, h2, ← hY]
  rw [← hY] at h1
  obtain ⟨y, rfl⟩ : ∃ y, Y = 2 ^ 8 * y := ⟨Y / 256, by omega⟩
  rw [← Nat.two_pow_add_eq_or_of_lt (show b.toNat < 2 ^ 8 by omega), IntKind.wrap_i64]
  unfold wrap64
  omega
theorem join_eq : ∀ (l : List Int), (∀ b ∈ l, 0 ≤ b ∧ b < 256) → ∀ (x y : Int), wrap64 y = x → 0 ≤ y → y < 18446744073709551616 → l.foldl jst x = wrap64 (l.foldl jsu y)
  | [], _, x, y, h, _, _ => h.symm
  | b :: l, hl, x, y, h, h0, h1 => by
    have hb := hl b List.mem_cons_self
    rw [List.foldl_cons, List.foldl_cons]
    have e1 : jst x b = wrap64 (x * 256 + b) := or_low x b hb.1 hb.2
    have e2 : jsu y b = (y * 256 + b) % 18446744073709551616 := by
      unfold jsu
      rw [IntKind.wrap_u64, IntKind.wrap_u64]
      omega
    refine join_eq l (fun c hc => hl c (List.mem_cons_of_mem _ hc)) _ _ ?_ ?_ ?_
    · rw [e1, e2, ← h]
      unfold wrap64
      omega
    · rw [e2]; omega
    · rw [e2]; omega
end Go.Proofs.Ythmenclkgngkkaa.Dig
end
section
/- Plain facts: bytes and numbers, there and back. -/
set_option linter.unusedSimpArgs false
set_option linter.unusedVariables false
namespace Go.Proofs.Ythmenclkgngkkaa.Dig
open Go.RowKit
def raw (x b : Int) : Int := x * 256 + b
def bl (a : Int) : List Int := [byt a 0, byt a 1, byt a 2, byt a 3, byt a 4, byt a 5, byt a 6, byt a 7]
end Go.Proofs.Ythmenclkgngkkaa.Dig
end
