-- Machine-made walks, written for this claim by a program of this session (plug.py).
import Derived.Test.YthmenclkgngkkaaPAx0
import Derived.Test.YthmenclkgngkkaaPAx5
namespace Go.Proofs.Ythmenclkgngkkaa.PA
open Go.RowKit Go.Proofs.YthmenclkgngkkaaW.PrintWords Go.Proofs.YthmenclkgngkkaaW.PrintLast Go.Proofs.YthmenclkgngkkaaW.PrintMore
attribute [local go_sem] max2_int min2_int max_two min_two max_three min_three max_four min_four   -- for this text's walks alone
set_option linter.unusedVariables false
set_option linter.unusedSimpArgs false

/-! ### reticuleref01_Shl: function 78 -/
def reticuleref01_Shl.l0 : Nat → Int → Int → Option (Int)
 | 0, _, _ => none
 | k + 1, x0, x5 => if x5 > 0 then ((reticuleref01_Add.f x0 x0).bind fun t224 => (reticuleref01_Shl.l0 k t224 (IntKind.u64.wrap (x5 - 1)))) else (some x0)
def reticuleref01_Shl.f (k : Nat) (a0 : Int) (a1 : Int) : Option (Int) := reticuleref01_Shl.l0 k a0 (Int.tmod (IntKind.u64.wrap (a1)) 64)
theorem reticuleref01_Shl.mono_l : ∀ k, (∀ y0 y1, LeO (reticuleref01_Shl.l0 k y0 y1) (reticuleref01_Shl.l0 (k + 1) y0 y1))
 | 0 => fun _ _ r h => by simp [reticuleref01_Shl.l0] at h
 | k + 1 => by
  have ih0 := reticuleref01_Shl.mono_l k
  ·intro y0 y1
   unfold reticuleref01_Shl.l0
   repeat' first
   | (with_reducible exact ih0 _ _)
   | (with_reducible exact LeO.refl _)
   | (with_reducible exact LeO.none _)
   | (with_reducible refine LeO.ite ?_ ?_)
   | (with_reducible refine LeO.bind ?_ (fun _ => ?_))
   | exact ih0 _ _
   | exact LeO.none _
   | refine LeO.ite ?_ ?_
   | refine LeO.bind ?_ (fun _ => ?_)
theorem reticuleref01_Shl.mono : ∀ a0 a1 k, LeO (reticuleref01_Shl.f k a0 a1) (reticuleref01_Shl.f (k + 1) a0 a1) := by
 intro a0 a1 k
 have ih0 := reticuleref01_Shl.mono_l k
 unfold reticuleref01_Shl.f
 repeat' first
   | (with_reducible exact ih0 _ _)
   | (with_reducible exact LeO.refl _)
   | (with_reducible exact LeO.none _)
   | (with_reducible refine LeO.ite ?_ ?_)
   | (with_reducible refine LeO.bind ?_ (fun _ => ?_))
   | exact ih0 _ _
   | exact LeO.none _
   | refine LeO.ite ?_ ?_
   | refine LeO.bind ?_ (fun _ => ?_)
set_option maxHeartbeats 8000000 in
set_option maxRecDepth 100000 in
theorem reticuleref01_Shl.calls (k : Nat) (a0 : Int) (a1 : Int) (r : Int) (w : World) (h : reticuleref01_Shl.f k a0 a1 = some r) :
  Calls Try.prog 78 #[.int .i64 a0, .int .i64 a1] w fun e w' => e = .returned (.int .i64 r) ∧ Drawn0 w w' := by
 have H : (reticuleref01_Shl.l0 k a0 (Int.tmod (IntKind.u64.wrap (a1)) 64)) = some r := h
 clear h
 have H' := Aside0.mk H
 clear H
 go_enter Try.func78, Try.ntmps78
 go_wp2
 go_loopg [0, 5] k (fun kq v0 v5 w' => ∃ (x0_1 : Int) (x5_1 : Int), v0 = .int .i64 x0_1 ∧ v5 = .int .u64 x5_1 ∧ Aside0 (reticuleref01_Shl.l0 kq x0_1 x5_1 = some r) ∧ Aside0 (kq ≤ k) ∧ Drawn0 w w')
 case atStart => exact ⟨(a0), (Int.tmod (IntKind.u64.wrap (a1)) 64), (by first | rfl | (simp; done) | (simp [*]; done)), (by first | rfl | (simp; done) | (simp [*]; done)), H', ⟨Nat.le_refl _⟩, by repeat (first | exact Drawn0.refl _ | apply Drawn0.step)⟩
 case round =>
  clear H'
  try clear p2
  obtain ⟨x0_1, x5_1, rfl, rfl, HA, HK1, ⟨m1, rfl⟩⟩ := hrel
  cases gk with
  | zero => exact absurd HA.out (by simp [reticuleref01_Shl.l0])
  | succ k1 =>
   have H := HA.out
   clear HA
   simp only [reticuleref01_Shl.l0] at H
   by_cases c3 : x5_1 > 0
   ·rw [if_pos c3] at H
    have c3b0 : decide (0 < x5_1) = true := decide_eq_true c3
    clear c3
    replace H := Option.bind_eq_some_iff.mp H
    obtain ⟨t224, A40, H⟩ := H
    replace H : (reticuleref01_Shl.l0 k1 t224 (IntKind.u64.wrap (x5_1 - 1))) = some r := H
    have A4 := Aside0.mk A40
    clear A40
    have H' := Aside0.mk H
    clear H
    go_wp2_with (first | ((with_reducible refine gate_callee (f := 73) rfl ?_); refine goesL_ (some 15) rfl rfl Try.func73 (by kernel_rfl) rfl #[.int .i64 x0_1, .int .i64 x0_1] rfl (by (try simp only [List.map_toArray, List.map_cons, List.map_nil]); first | done | rfl | (simp only [List.length_drop, List.length_take]; rfl)) ?_; (with_reducible refine (reticuleref01_Add.calls x0_1 x0_1 t224 _ A4.out).mono ?_); rintro e w' ⟨rfl, ⟨nd, rfl⟩⟩; refine ⟨_, rfl, ?_⟩))
    go_roundg k1
    case measure => have := HK1.out; omega
    case rel => exact ⟨(t224), (IntKind.u64.wrap (x5_1 - 1)), (by first | rfl | (simp; done) | (simp [*]; done)), (by first | rfl | (simp; done) | (simp [*]; done)), H', ⟨by have := HK1.out; omega⟩, by repeat (first | exact Drawn0.refl _ | apply Drawn0.step)⟩
   ·rw [if_neg c3] at H
    have c3b0 : decide (0 < x5_1) = false := decide_eq_false c3
    clear c3
    obtain rfl := Option.some.inj H
    go_wp2
    go_ret
    exact ⟨by first | rfl | (simp; done) | (simp [*]; done), by repeat (first | exact Drawn0.refl _ | apply Drawn0.step)⟩

/-! ### reticuleref01_Shr: function 79 -/
def reticuleref01_Shr.l0 : Nat → Int → Int → Option (Int)
 | 0, _, _ => none
 | k + 1, x0, x5 => if x5 > 0 then (reticuleref01_Shr.l0 k (wrap64 (Int.tdiv (wrap64 (x0 - (Go.bits .and .i64 x0 1))) 2)) (IntKind.u64.wrap (x5 - 1))) else (some x0)
def reticuleref01_Shr.f (k : Nat) (a0 : Int) (a1 : Int) : Option (Int) := reticuleref01_Shr.l0 k a0 (Int.tmod (IntKind.u64.wrap (a1)) 64)
theorem reticuleref01_Shr.mono_l : ∀ k, (∀ y0 y1, LeO (reticuleref01_Shr.l0 k y0 y1) (reticuleref01_Shr.l0 (k + 1) y0 y1))
 | 0 => fun _ _ r h => by simp [reticuleref01_Shr.l0] at h
 | k + 1 => by
  have ih0 := reticuleref01_Shr.mono_l k
  ·intro y0 y1
   unfold reticuleref01_Shr.l0
   repeat' first
   | (with_reducible exact ih0 _ _)
   | (with_reducible exact LeO.refl _)
   | (with_reducible exact LeO.none _)
   | (with_reducible refine LeO.ite ?_ ?_)
   | (with_reducible refine LeO.bind ?_ (fun _ => ?_))
   | exact ih0 _ _
   | exact LeO.none _
   | refine LeO.ite ?_ ?_
   | refine LeO.bind ?_ (fun _ => ?_)
theorem reticuleref01_Shr.mono : ∀ a0 a1 k, LeO (reticuleref01_Shr.f k a0 a1) (reticuleref01_Shr.f (k + 1) a0 a1) := by
 intro a0 a1 k
 have ih0 := reticuleref01_Shr.mono_l k
 unfold reticuleref01_Shr.f
 repeat' first
   | (with_reducible exact ih0 _ _)
   | (with_reducible exact LeO.refl _)
   | (with_reducible exact LeO.none _)
   | (with_reducible refine LeO.ite ?_ ?_)
   | (with_reducible refine LeO.bind ?_ (fun _ => ?_))
   | exact ih0 _ _
   | exact LeO.none _
   | refine LeO.ite ?_ ?_
   | refine LeO.bind ?_ (fun _ => ?_)
set_option maxHeartbeats 8000000 in
set_option maxRecDepth 100000 in
theorem reticuleref01_Shr.calls (k : Nat) (a0 : Int) (a1 : Int) (r : Int) (w : World) (h : reticuleref01_Shr.f k a0 a1 = some r) :
  Calls Try.prog 79 #[.int .i64 a0, .int .i64 a1] w fun e w' => e = .returned (.int .i64 r) ∧ Drawn0 w w' := by
 have H : (reticuleref01_Shr.l0 k a0 (Int.tmod (IntKind.u64.wrap (a1)) 64)) = some r := h
 clear h
 have H' := Aside0.mk H
 clear H
 go_enter Try.func79, Try.ntmps79
 go_wp2
 go_loopg [0, 5] k (fun kq v0 v5 w' => ∃ (x0_1 : Int) (x5_1 : Int), v0 = .int .i64 x0_1 ∧ v5 = .int .u64 x5_1 ∧ Aside0 (reticuleref01_Shr.l0 kq x0_1 x5_1 = some r) ∧ Aside0 (kq ≤ k) ∧ Drawn0 w w')
 case atStart => exact ⟨(a0), (Int.tmod (IntKind.u64.wrap (a1)) 64), (by first | rfl | (simp; done) | (simp [*]; done)), (by first | rfl | (simp; done) | (simp [*]; done)), H', ⟨Nat.le_refl _⟩, by repeat (first | exact Drawn0.refl _ | apply Drawn0.step)⟩
 case round =>
  clear H'
  try clear p2
  obtain ⟨x0_1, x5_1, rfl, rfl, HA, HK1, ⟨m1, rfl⟩⟩ := hrel
  cases gk with
  | zero => exact absurd HA.out (by simp [reticuleref01_Shr.l0])
  | succ k1 =>
   have H := HA.out
   clear HA
   simp only [reticuleref01_Shr.l0] at H
   by_cases c3 : x5_1 > 0
   ·rw [if_pos c3] at H
    have c3b0 : decide (0 < x5_1) = true := decide_eq_true c3
    clear c3
    have H' := Aside0.mk H
    clear H
    go_wp2
    go_roundg k1
    case measure => have := HK1.out; omega
    case rel => exact ⟨(wrap64 (Int.tdiv (wrap64 (x0_1 - (Go.bits .and .i64 x0_1 1))) 2)), (IntKind.u64.wrap (x5_1 - 1)), (by first | rfl | (simp; done) | (simp [*]; done)), (by first | rfl | (simp; done) | (simp [*]; done)), H', ⟨by have := HK1.out; omega⟩, by repeat (first | exact Drawn0.refl _ | apply Drawn0.step)⟩
   ·rw [if_neg c3] at H
    have c3b0 : decide (0 < x5_1) = false := decide_eq_false c3
    clear c3
    obtain rfl := Option.some.inj H
    go_wp2
    go_ret
    exact ⟨by first | rfl | (simp; done) | (simp [*]; done), by repeat (first | exact Drawn0.refl _ | apply Drawn0.step)⟩

/-! ### reticuleref01_Narrow: function 80 -/
mutual
def reticuleref01_Narrow.j0 : Nat → Int → Int → Bool → Option (Int)
 | 0, _, _, _ => none
 | k + 1, x0, x1, x17 => if x17 = true then (some x1) else (reticuleref01_Narrow.l0 k x0 x1 1 0)
def reticuleref01_Narrow.l0 : Nat → Int → Int → Int → Int → Option (Int)
 | 0, _, _, _, _ => none
 | k + 1, x0, x1, x5, x6 => if x6 < x0 then (reticuleref01_Narrow.l0 k x0 x1 (IntKind.u64.wrap (x5 * 2)) (wrap64 (x6 + 1))) else (if x5 = 0 then (none) else (if (Int.tmod (IntKind.u64.wrap (x1)) x5) ≥ (IntKind.u64.wrap (Int.tdiv x5 2)) then (some (wrap64 ((wrap64 (Int.tmod (IntKind.u64.wrap (x1)) x5)) - (wrap64 (x5))))) else (some (wrap64 (Int.tmod (IntKind.u64.wrap (x1)) x5)))))
end
def reticuleref01_Narrow.f (k : Nat) (a0 : Int) (a1 : Int) : Option (Int) := if a0 = 8 then (reticuleref01_Narrow.j0 k a0 a1 false) else (if a0 = 16 then (reticuleref01_Narrow.j0 k a0 a1 false) else (reticuleref01_Narrow.j0 k a0 a1 (a0 != 32)))
theorem reticuleref01_Narrow.mono_l : ∀ k, (∀ y0 y1 y2, LeO (reticuleref01_Narrow.j0 k y0 y1 y2) (reticuleref01_Narrow.j0 (k + 1) y0 y1 y2)) ∧ (∀ y0 y1 y2 y3, LeO (reticuleref01_Narrow.l0 k y0 y1 y2 y3) (reticuleref01_Narrow.l0 (k + 1) y0 y1 y2 y3))
 | 0 => ⟨fun _ _ _ r h => by simp [reticuleref01_Narrow.j0] at h, fun _ _ _ _ r h => by simp [reticuleref01_Narrow.l0] at h⟩
 | k + 1 => by
  obtain ⟨ih0, ih1⟩ := reticuleref01_Narrow.mono_l k
  refine ⟨?_, ?_⟩
  ·intro y0 y1 y2
   unfold reticuleref01_Narrow.j0
   repeat' first
   | (with_reducible exact ih0 _ _ _)
   | (with_reducible exact ih1 _ _ _ _)
   | (with_reducible exact LeO.refl _)
   | (with_reducible exact LeO.none _)
   | (with_reducible refine LeO.ite ?_ ?_)
   | (with_reducible refine LeO.bind ?_ (fun _ => ?_))
   | exact ih0 _ _ _
   | exact ih1 _ _ _ _
   | exact LeO.none _
   | refine LeO.ite ?_ ?_
   | refine LeO.bind ?_ (fun _ => ?_)
  ·intro y0 y1 y2 y3
   unfold reticuleref01_Narrow.l0
   repeat' first
   | (with_reducible exact ih0 _ _ _)
   | (with_reducible exact ih1 _ _ _ _)
   | (with_reducible exact LeO.refl _)
   | (with_reducible exact LeO.none _)
   | (with_reducible refine LeO.ite ?_ ?_)
   | (with_reducible refine LeO.bind ?_ (fun _ => ?_))
   | exact ih0 _ _ _
   | exact ih1 _ _ _ _
   | exact LeO.none _
   | refine LeO.ite ?_ ?_
   | refine LeO.bind ?_ (fun _ => ?_)
theorem reticuleref01_Narrow.mono : ∀ a0 a1 k, LeO (reticuleref01_Narrow.f k a0 a1) (reticuleref01_Narrow.f (k + 1) a0 a1) := by
 intro a0 a1 k
 obtain ⟨ih0, ih1⟩ := reticuleref01_Narrow.mono_l k
 unfold reticuleref01_Narrow.f
 repeat' first
   | (with_reducible exact ih0 _ _ _)
   | (with_reducible exact ih1 _ _ _ _)
   | (with_reducible exact LeO.refl _)
   | (with_reducible exact LeO.none _)
   | (with_reducible refine LeO.ite ?_ ?_)
   | (with_reducible refine LeO.bind ?_ (fun _ => ?_))
   | exact ih0 _ _ _
   | exact ih1 _ _ _ _
   | exact LeO.none _
   | refine LeO.ite ?_ ?_
   | refine LeO.bind ?_ (fun _ => ?_)
set_option maxHeartbeats 8000000 in
set_option maxRecDepth 100000 in
theorem reticuleref01_Narrow.calls (k : Nat) (a0 : Int) (a1 : Int) (r : Int) (w : World) (h : reticuleref01_Narrow.f k a0 a1 = some r) :
  Calls Try.prog 80 #[.int .i64 a0, .int .i64 a1] w fun e w' => e = .returned (.int .i64 r) ∧ Drawn0 w w' := by
 have H : (if a0 = 8 then (reticuleref01_Narrow.j0 k a0 a1 false) else (if a0 = 16 then (reticuleref01_Narrow.j0 k a0 a1 false) else (reticuleref01_Narrow.j0 k a0 a1 (a0 != 32)))) = some r := h
 clear h
 have HC3 := Aside0.mk H
 clear H
 go_enter Try.func80, Try.ntmps80
 go_upto_region 1 with (fail)
 go_cut [17] (fun v17 wc => ∃ (kq : Nat) (x17_2 : Bool), v17 = .bool x17_2 ∧ Aside0 (reticuleref01_Narrow.j0 kq a0 a1 x17_2 = some r) ∧ Aside0 (kq ≤ k) ∧ Drawn0 w wc)
 case first =>
  have H := HC3.out
  clear HC3
  by_cases c4 : a0 = 8
  ·rw [if_pos c4] at H
   have c4b0 : (a0 == 8) = true := beq_iff_eq.mpr c4
   have c4b1 : (a0 != 8) = false := bne_eq_false_iff_eq.mpr c4
   clear c4
   (first | rw [c4b0] | (simp only [i64_w, i32_w]; rw [c4b0]) | skip)
   have H' := Aside0.mk H
   clear H
   go_wp2
   go_meet
   case rel => exact ⟨_, (false), (by first | rfl | (simp; done) | (simp [*]; done)), H', ⟨by first | omega | exact Nat.le_refl _⟩, by repeat (first | exact Drawn0.refl _ | apply Drawn0.step)⟩
  ·rw [if_neg c4] at H
   have c4b0 : (a0 == 8) = false := beq_eq_false_iff_ne.mpr c4
   have c4b1 : (a0 != 8) = true := bne_iff_ne.mpr c4
   (first | rw [c4b0] | (simp only [i64_w, i32_w]; rw [c4b0]) | skip)
   by_cases c5 : a0 = 16
   ·rw [if_pos c5] at H
    have c5b0 : (a0 == 16) = true := beq_iff_eq.mpr c5
    have c5b1 : (a0 != 16) = false := bne_eq_false_iff_eq.mpr c5
    clear c5
    have H' := Aside0.mk H
    clear H
    go_wp2
    go_meet
    case rel => exact ⟨_, (false), (by first | rfl | (simp; done) | (simp [*]; done)), H', ⟨by first | omega | exact Nat.le_refl _⟩, by repeat (first | exact Drawn0.refl _ | apply Drawn0.step)⟩
   ·rw [if_neg c5] at H
    have c5b0 : (a0 == 16) = false := beq_eq_false_iff_ne.mpr c5
    have c5b1 : (a0 != 16) = true := bne_iff_ne.mpr c5
    have H' := Aside0.mk H
    clear H
    go_wp2
    go_meet
    case rel => exact ⟨_, ((a0 != 32)), (by first | rfl | (simp; done) | (simp [*]; done)), H', ⟨by first | omega | exact Nat.le_refl _⟩, by repeat (first | exact Drawn0.refl _ | apply Drawn0.step)⟩
 case rest =>
  clear HC3
  try clear p2
  try clear c4
  try clear c4b0
  try clear c4b1
  try clear c5
  try clear c5b0
  try clear c5b1
  obtain ⟨kq, x17_2, rfl, HA, HJ2, ⟨mc2, rfl⟩⟩ := hcut
  cases kq with
  | zero => exact absurd HA.out (by simp [reticuleref01_Narrow.j0])
  | succ kj2 =>
   have H := HA.out
   clear HA
   simp only [reticuleref01_Narrow.j0] at H
   by_cases c6 : x17_2 = true
   ·subst c6
    have H1 : (some a1) = some r := by rw [if_pos rfl] at H; exact H
    clear H
    have H := H1
    clear H1
    obtain rfl := Option.some.inj H
    go_wp2
    go_ret
    exact ⟨by first | rfl | (simp; done) | (simp [*]; done), by repeat (first | exact Drawn0.refl _ | apply Drawn0.step)⟩
   ·replace c6 := Bool.eq_false_iff.mpr c6
    subst c6
    have H1 : (reticuleref01_Narrow.l0 kj2 a0 a1 1 0) = some r := by rw [if_neg (show ¬ (false = true) by decide)] at H; exact H
    clear H
    have H := H1
    clear H1
    have H' := Aside0.mk H
    clear H
    go_wp2
    go_loopg [5, 6] kj2 (fun kq v5 v6 w' => ∃ (x5_2 : Int) (x6_2 : Int), v5 = .int .u64 x5_2 ∧ v6 = .int .i64 x6_2 ∧ Aside0 (reticuleref01_Narrow.l0 kq a0 a1 x5_2 x6_2 = some r) ∧ Aside0 (kq ≤ kj2) ∧ Drawn0 w w')
    case atStart => exact ⟨(1), (0), (by first | rfl | (simp; done) | (simp [*]; done)), (by first | rfl | (simp; done) | (simp [*]; done)), H', ⟨Nat.le_refl _⟩, by repeat (first | exact Drawn0.refl _ | apply Drawn0.step)⟩
    case round =>
     clear H'
     try clear c2
     try clear p2
     try clear c4
     try clear c4b0
     try clear c4b1
     try clear c5
     try clear c5b0
     try clear c5b1
     try clear c6
     try clear p2
     obtain ⟨x5_2, x6_2, rfl, rfl, HA, HK2, ⟨m2, rfl⟩⟩ := hrel
     cases gk with
     | zero => exact absurd HA.out (by simp [reticuleref01_Narrow.l0])
     | succ k2 =>
      have H := HA.out
      clear HA
      simp only [reticuleref01_Narrow.l0] at H
      by_cases c7 : x6_2 < a0
      ·rw [if_pos c7] at H
       have c7b0 : decide (x6_2 < a0) = true := decide_eq_true c7
       clear c7
       have H' := Aside0.mk H
       clear H
       go_wp2
       go_roundg k2
       case measure => have := HJ2.out; have := HK2.out; omega
       case rel => exact ⟨(IntKind.u64.wrap (x5_2 * 2)), (wrap64 (x6_2 + 1)), (by first | rfl | (simp; done) | (simp [*]; done)), (by first | rfl | (simp; done) | (simp [*]; done)), H', ⟨by have := HJ2.out; have := HK2.out; omega⟩, by repeat (first | exact Drawn0.refl _ | apply Drawn0.step)⟩
      ·rw [if_neg c7] at H
       have c7b0 : decide (x6_2 < a0) = false := decide_eq_false c7
       clear c7
       by_cases c8 : x5_2 = 0
       ·rw [if_pos c8] at H
        exact absurd H (by simp)
       ·rw [if_neg c8] at H
        have c8b0 : (x5_2 == 0) = false := beq_eq_false_iff_ne.mpr c8
        have c8b1 : (x5_2 != 0) = true := bne_iff_ne.mpr c8
        by_cases c9 : (Int.tmod (IntKind.u64.wrap (a1)) x5_2) ≥ (IntKind.u64.wrap (Int.tdiv x5_2 2))
        ·rw [if_pos c9] at H
         have c9b0 : decide ((IntKind.u64.wrap (Int.tdiv x5_2 2)) ≤ (Int.tmod (IntKind.u64.wrap (a1)) x5_2)) = true := decide_eq_true c9
         clear c9
         obtain rfl := Option.some.inj H
         go_wp2
         go_ret
         exact ⟨by first | rfl | (simp; done) | (simp [*]; done), by repeat (first | exact Drawn0.refl _ | apply Drawn0.step)⟩
        ·rw [if_neg c9] at H
         have c9b0 : decide ((IntKind.u64.wrap (Int.tdiv x5_2 2)) ≤ (Int.tmod (IntKind.u64.wrap (a1)) x5_2)) = false := decide_eq_false c9
         clear c9
         obtain rfl := Option.some.inj H
         go_wp2
         go_ret
         exact ⟨by first | rfl | (simp; done) | (simp [*]; done), by repeat (first | exact Drawn0.refl _ | apply Drawn0.step)⟩

/-! ### reticuleref01_truth: function 103 -/
def reticuleref01_truth.f (a0 : Bool) : Option (Int) := if a0 = true then (some 1) else (some 0)
set_option maxHeartbeats 8000000 in
set_option maxRecDepth 100000 in
theorem reticuleref01_truth.calls (a0 : Bool) (r : Int) (w : World) (h : reticuleref01_truth.f a0 = some r) :
  Calls Try.prog 103 #[.bool a0] w fun e w' => e = .returned (.int .i64 r) ∧ Drawn0 w w' := by
 have H : (if a0 = true then (some 1) else (some 0)) = some r := h
 clear h
 by_cases c2 : a0 = true
 ·subst c2
  have H1 : (some 1) = some r := by rw [if_pos rfl] at H; exact H
  clear H
  have H := H1
  clear H1
  obtain rfl := Option.some.inj H
  go_enter Try.func103, Try.ntmps103
  go_wp2
  go_ret
  exact ⟨by first | rfl | (simp; done) | (simp [*]; done), by repeat (first | exact Drawn0.refl _ | apply Drawn0.step)⟩
 ·replace c2 := Bool.eq_false_iff.mpr c2
  subst c2
  have H1 : (some 0) = some r := by rw [if_neg (show ¬ (false = true) by decide)] at H; exact H
  clear H
  have H := H1
  clear H1
  obtain rfl := Option.some.inj H
  go_enter Try.func103, Try.ntmps103
  go_wp2
  go_ret
  exact ⟨by first | rfl | (simp; done) | (simp [*]; done), by repeat (first | exact Drawn0.refl _ | apply Drawn0.step)⟩

/-! ### reticuleref01_Truth: function 104 -/
def reticuleref01_Truth.f (a0 : Int) : Option (Bool) := some (a0 != 0)
set_option maxHeartbeats 8000000 in
set_option maxRecDepth 100000 in
theorem reticuleref01_Truth.calls (a0 : Int) (r : Bool) (w : World) (h : reticuleref01_Truth.f a0 = some r) :
  Calls Try.prog 104 #[.int .i64 a0] w fun e w' => e = .returned (.bool r) ∧ Drawn0 w w' := by
 have H : (some (a0 != 0)) = some r := h
 clear h
 obtain rfl := Option.some.inj H
 go_enter Try.func104, Try.ntmps104
 go_wp2
 go_ret
 exact ⟨by first | rfl | (simp; done) | (simp [*]; done), by repeat (first | exact Drawn0.refl _ | apply Drawn0.step)⟩

/-! ### reticuleref01_truths: function 81 -/
def reticuleref01_truths.f (a0 : Int) (l1 : List Int) : Option (Int) := if 0 < (l1.length : Int) then (if 0 ≤ (wrap64 ((l1.length : Int) - 1)) then (if (wrap64 ((l1.length : Int) - 1)) < (l1.length : Int) then (if a0 = 10 then (some (Go.bits .and .i64 (rd l1 0) (rd l1 (wrap64 ((l1.length : Int) - 1))))) else (if a0 = 11 then (some (Go.bits .or .i64 (rd l1 0) (rd l1 (wrap64 ((l1.length : Int) - 1))))) else (if a0 = 12 then (some (Go.bits .xor .i64 (rd l1 0) (rd l1 (wrap64 ((l1.length : Int) - 1))))) else (if a0 = 13 then ((reticuleref01_truth.f ((rd l1 0) == (rd l1 (wrap64 ((l1.length : Int) - 1))))).bind fun t227 => (some t227)) else (if a0 = 14 then ((reticuleref01_truth.f (decide ((rd l1 0) < (rd l1 (wrap64 ((l1.length : Int) - 1)))))).bind fun t228 => (some t228)) else (if a0 = 15 then ((reticuleref01_Truth.f (rd l1 0)).bind fun t229 => ((reticuleref01_truth.f (!t229)).bind fun t230 => (some t230))) else (if a0 = 16 then ((reticuleref01_Truth.f (rd l1 0)).bind fun t231 => (if t231 = true then ((reticuleref01_Truth.f (rd l1 (wrap64 ((l1.length : Int) - 1)))).bind fun t232 => ((reticuleref01_truth.f t232).bind fun t233 => (some t233))) else ((reticuleref01_truth.f false).bind fun t234 => (some t234)))) else (if a0 = 17 then ((reticuleref01_Truth.f (rd l1 0)).bind fun t235 => (if t235 = true then ((reticuleref01_truth.f true).bind fun t236 => (some t236)) else ((reticuleref01_Truth.f (rd l1 (wrap64 ((l1.length : Int) - 1)))).bind fun t237 => ((reticuleref01_truth.f t237).bind fun t238 => (some t238))))) else ((reticuleref01_Truth.f (rd l1 0)).bind fun t239 => (if t239 = true then (if 1 < (l1.length : Int) then (some (rd l1 1)) else (none)) else (some (rd l1 (wrap64 ((l1.length : Int) - 1)))))))))))))) else (none)) else (none)) else (none)
set_option maxHeartbeats 8000000 in
set_option maxRecDepth 100000 in
theorem reticuleref01_truths.calls (a0 : Int) (A1 : Option Addr) (c1 : Nat) (l1 : List Int) (r : Int) (w : World) (hr1 : Kd.C (Kd.int .i64) w A1 l1.length l1) (hc1 : l1.length ≤ c1) (h : reticuleref01_truths.f a0 l1 = some r) :
  Calls Try.prog 81 #[.int .u8 a0, .slice A1 l1.length c1] w fun e w' => e = .returned (.int .i64 r) ∧ Drawn0 w w' := by
 have HR1 := Aside0.mk hr1
 have HC1 := Aside0.mk hc1
 clear hr1 hc1
 have H : (if 0 < (l1.length : Int) then (if 0 ≤ (wrap64 ((l1.length : Int) - 1)) then (if (wrap64 ((l1.length : Int) - 1)) < (l1.length : Int) then (if a0 = 10 then (some (Go.bits .and .i64 (rd l1 0) (rd l1 (wrap64 ((l1.length : Int) - 1))))) else (if a0 = 11 then (some (Go.bits .or .i64 (rd l1 0) (rd l1 (wrap64 ((l1.length : Int) - 1))))) else (if a0 = 12 then (some (Go.bits .xor .i64 (rd l1 0) (rd l1 (wrap64 ((l1.length : Int) - 1))))) else (if a0 = 13 then ((reticuleref01_truth.f ((rd l1 0) == (rd l1 (wrap64 ((l1.length : Int) - 1))))).bind fun t227 => (some t227)) else (if a0 = 14 then ((reticuleref01_truth.f (decide ((rd l1 0) < (rd l1 (wrap64 ((l1.length : Int) - 1)))))).bind fun t228 => (some t228)) else (if a0 = 15 then ((reticuleref01_Truth.f (rd l1 0)).bind fun t229 => ((reticuleref01_truth.f (!t229)).bind fun t230 => (some t230))) else (if a0 = 16 then ((reticuleref01_Truth.f (rd l1 0)).bind fun t231 => (if t231 = true then ((reticuleref01_Truth.f (rd l1 (wrap64 ((l1.length : Int) - 1)))).bind fun t232 => ((reticuleref01_truth.f t232).bind fun t233 => (some t233))) else ((reticuleref01_truth.f false).bind fun t234 => (some t234)))) else (if a0 = 17 then ((reticuleref01_Truth.f (rd l1 0)).bind fun t235 => (if t235 = true then ((reticuleref01_truth.f true).bind fun t236 => (some t236)) else ((reticuleref01_Truth.f (rd l1 (wrap64 ((l1.length : Int) - 1)))).bind fun t237 => ((reticuleref01_truth.f t237).bind fun t238 => (some t238))))) else ((reticuleref01_Truth.f (rd l1 0)).bind fun t239 => (if t239 = true then (if 1 < (l1.length : Int) then (some (rd l1 1)) else (none)) else (some (rd l1 (wrap64 ((l1.length : Int) - 1)))))))))))))) else (none)) else (none)) else (none)) = some r := h
 clear h
 by_cases c3 : 0 < (l1.length : Int)
 ·rw [if_pos c3] at H
  have c3b0 : decide (0 < (l1.length : Int)) = true := decide_eq_true c3
  have c3b1 : decide (0 < l1.length) = true := decide_eq_true (by omega)
  clear c3
  obtain ⟨ji4, hji4⟩ : ∃ j_ : Int, (wrap64 ((l1.length : Int) - 1)) = j_ := ⟨_, rfl⟩
  replace H : (if 0 ≤ (ji4) then (if (ji4) < (l1.length : Int) then (if a0 = 10 then (some (Go.bits .and .i64 (rd l1 0) (rd l1 (ji4)))) else (if a0 = 11 then (some (Go.bits .or .i64 (rd l1 0) (rd l1 (ji4)))) else (if a0 = 12 then (some (Go.bits .xor .i64 (rd l1 0) (rd l1 (ji4)))) else (if a0 = 13 then ((reticuleref01_truth.f ((rd l1 0) == (rd l1 (ji4)))).bind fun t227 => (some t227)) else (if a0 = 14 then ((reticuleref01_truth.f (decide ((rd l1 0) < (rd l1 (ji4))))).bind fun t228 => (some t228)) else (if a0 = 15 then ((reticuleref01_Truth.f (rd l1 0)).bind fun t229 => ((reticuleref01_truth.f (!t229)).bind fun t230 => (some t230))) else (if a0 = 16 then ((reticuleref01_Truth.f (rd l1 0)).bind fun t231 => (if t231 = true then ((reticuleref01_Truth.f (rd l1 (ji4))).bind fun t232 => ((reticuleref01_truth.f t232).bind fun t233 => (some t233))) else ((reticuleref01_truth.f false).bind fun t234 => (some t234)))) else (if a0 = 17 then ((reticuleref01_Truth.f (rd l1 0)).bind fun t235 => (if t235 = true then ((reticuleref01_truth.f true).bind fun t236 => (some t236)) else ((reticuleref01_Truth.f (rd l1 (ji4))).bind fun t237 => ((reticuleref01_truth.f t237).bind fun t238 => (some t238))))) else ((reticuleref01_Truth.f (rd l1 0)).bind fun t239 => (if t239 = true then (if 1 < (l1.length : Int) then (some (rd l1 1)) else (none)) else (some (rd l1 (ji4))))))))))))) else (none)) else (none)) = some r := by first | (rw [hji4] at H; exact H) | (simp only [hji4] at H ⊢; exact H)
  have hji4w : (IntKind.i64.wrap ((l1.length : Int) - 1)) = ji4 := (i64_w _).trans hji4
  by_cases c5 : 0 ≤ (ji4)
  ·rw [if_pos c5] at H
   have c5b0 : decide (0 ≤ (ji4)) = true := decide_eq_true c5
   clear c5
   by_cases c6 : (ji4) < (l1.length : Int)
   ·rw [if_pos c6] at H
    have c6b0 : decide ((ji4) < (l1.length : Int)) = true := decide_eq_true c6
    clear c6
    by_cases c7 : a0 = 10
    ·rw [if_pos c7] at H
     have c7b0 : (a0 == 10) = true := beq_iff_eq.mpr c7
     have c7b1 : (a0 != 10) = false := bne_eq_false_iff_eq.mpr c7
     clear c7
     obtain rfl := Option.some.inj H
     have p225 : 0 ≤ (0 : Int) := (by omega)
     have q225 : 0 < (l1.length : Int) := of_decide_eq_true (by first | (with_reducible assumption) | assumption)
     obtain ⟨ad225, e225, hx225_0⟩ := Kd.at_int HR1.out 0 p225 q225
     cases e225
     have qi225 : (0 < l1.length) = True := eq_true (by omega)
     (try rw [show ((0 : Int)).toNat = 0 from rfl] at hx225_0)
     (try rw [Addr.add_zero'] at hx225_0)
     replace p225 := eq_true p225
     replace q225 := eq_true q225
     have p226 : 0 ≤ ((ji4) : Int) := of_decide_eq_true (by first | (with_reducible assumption) | assumption)
     have q226 : (ji4) < (l1.length : Int) := of_decide_eq_true (by first | (with_reducible assumption) | assumption)
     obtain ⟨ad226, e226, hx226_0⟩ := Kd.at_int HR1.out (ji4) p226 q226
     obtain rfl : ad225 = ad226 := (by injection e226)
     replace p226 := eq_true p226
     replace q226 := eq_true q226
     go_enter Try.func81, Try.ntmps81
     go_wp2
     repeat (go_quiet (fail); try go_wp2)
     go_ret
     exact ⟨by first | rfl | (simp; done) | (simp only [← hji4] <;> (first | rfl | simp)) | (simp [*]; done), by repeat (first | exact Drawn0.refl _ | apply Drawn0.step)⟩
    ·rw [if_neg c7] at H
     have c7b0 : (a0 == 10) = false := beq_eq_false_iff_ne.mpr c7
     have c7b1 : (a0 != 10) = true := bne_iff_ne.mpr c7
     by_cases c8 : a0 = 11
     ·rw [if_pos c8] at H
      have c8b0 : (a0 == 11) = true := beq_iff_eq.mpr c8
      have c8b1 : (a0 != 11) = false := bne_eq_false_iff_eq.mpr c8
      clear c8
      obtain rfl := Option.some.inj H
      have p225 : 0 ≤ (0 : Int) := (by omega)
      have q225 : 0 < (l1.length : Int) := of_decide_eq_true (by first | (with_reducible assumption) | assumption)
      obtain ⟨ad225, e225, hx225_0⟩ := Kd.at_int HR1.out 0 p225 q225
      cases e225
      have qi225 : (0 < l1.length) = True := eq_true (by omega)
      (try rw [show ((0 : Int)).toNat = 0 from rfl] at hx225_0)
      (try rw [Addr.add_zero'] at hx225_0)
      replace p225 := eq_true p225
      replace q225 := eq_true q225
      have p226 : 0 ≤ ((ji4) : Int) := of_decide_eq_true (by first | (with_reducible assumption) | assumption)
      have q226 : (ji4) < (l1.length : Int) := of_decide_eq_true (by first | (with_reducible assumption) | assumption)
      obtain ⟨ad226, e226, hx226_0⟩ := Kd.at_int HR1.out (ji4) p226 q226
      obtain rfl : ad225 = ad226 := (by injection e226)
      replace p226 := eq_true p226
      replace q226 := eq_true q226
      go_enter Try.func81, Try.ntmps81
      go_wp2
      repeat (go_quiet (fail); try go_wp2)
      go_ret
      exact ⟨by first | rfl | (simp; done) | (simp only [← hji4] <;> (first | rfl | simp)) | (simp [*]; done), by repeat (first | exact Drawn0.refl _ | apply Drawn0.step)⟩
     ·rw [if_neg c8] at H
      have c8b0 : (a0 == 11) = false := beq_eq_false_iff_ne.mpr c8
      have c8b1 : (a0 != 11) = true := bne_iff_ne.mpr c8
      by_cases c9 : a0 = 12
      ·rw [if_pos c9] at H
       have c9b0 : (a0 == 12) = true := beq_iff_eq.mpr c9
       have c9b1 : (a0 != 12) = false := bne_eq_false_iff_eq.mpr c9
       clear c9
       obtain rfl := Option.some.inj H
       have p225 : 0 ≤ (0 : Int) := (by omega)
       have q225 : 0 < (l1.length : Int) := of_decide_eq_true (by first | (with_reducible assumption) | assumption)
       obtain ⟨ad225, e225, hx225_0⟩ := Kd.at_int HR1.out 0 p225 q225
       cases e225
       have qi225 : (0 < l1.length) = True := eq_true (by omega)
       (try rw [show ((0 : Int)).toNat = 0 from rfl] at hx225_0)
       (try rw [Addr.add_zero'] at hx225_0)
       replace p225 := eq_true p225
       replace q225 := eq_true q225
       have p226 : 0 ≤ ((ji4) : Int) := of_decide_eq_true (by first | (with_reducible assumption) | assumption)
       have q226 : (ji4) < (l1.length : Int) := of_decide_eq_true (by first | (with_reducible assumption) | assumption)
       obtain ⟨ad226, e226, hx226_0⟩ := Kd.at_int HR1.out (ji4) p226 q226
       obtain rfl : ad225 = ad226 := (by injection e226)
       replace p226 := eq_true p226
       replace q226 := eq_true q226
       go_enter Try.func81, Try.ntmps81
       go_wp2
       repeat (go_quiet (fail); try go_wp2)
       go_ret
       exact ⟨by first | rfl | (simp; done) | (simp only [← hji4] <;> (first | rfl | simp)) | (simp [*]; done), by repeat (first | exact Drawn0.refl _ | apply Drawn0.step)⟩
      ·rw [if_neg c9] at H
       have c9b0 : (a0 == 12) = false := beq_eq_false_iff_ne.mpr c9
       have c9b1 : (a0 != 12) = true := bne_iff_ne.mpr c9
       by_cases c10 : a0 = 13
       ·rw [if_pos c10] at H
        have c10b0 : (a0 == 13) = true := beq_iff_eq.mpr c10
        have c10b1 : (a0 != 13) = false := bne_eq_false_iff_eq.mpr c10
        clear c10
        replace H := Option.bind_eq_some_iff.mp H
        obtain ⟨t227, A110, H⟩ := H
        replace H : (some t227) = some r := H
        have A11 := Aside0.mk A110
        clear A110
        obtain rfl := Option.some.inj H
        have p225 : 0 ≤ (0 : Int) := (by omega)
        have q225 : 0 < (l1.length : Int) := of_decide_eq_true (by first | (with_reducible assumption) | assumption)
        obtain ⟨ad225, e225, hx225_0⟩ := Kd.at_int HR1.out 0 p225 q225
        cases e225
        have qi225 : (0 < l1.length) = True := eq_true (by omega)
        (try rw [show ((0 : Int)).toNat = 0 from rfl] at hx225_0)
        (try rw [Addr.add_zero'] at hx225_0)
        replace p225 := eq_true p225
        replace q225 := eq_true q225
        have p226 : 0 ≤ ((ji4) : Int) := of_decide_eq_true (by first | (with_reducible assumption) | assumption)
        have q226 : (ji4) < (l1.length : Int) := of_decide_eq_true (by first | (with_reducible assumption) | assumption)
        obtain ⟨ad226, e226, hx226_0⟩ := Kd.at_int HR1.out (ji4) p226 q226
        obtain rfl : ad225 = ad226 := (by injection e226)
        replace p226 := eq_true p226
        replace q226 := eq_true q226
        go_enter Try.func81, Try.ntmps81
        go_wp2_with (first | (go_at_call 103; (with_reducible refine (reticuleref01_truth.calls ((rd l1 0) == (rd l1 (ji4))) t227 _ A11.out).mono ?_); rintro e w' ⟨rfl, ⟨nd, rfl⟩⟩; (try first | exact ⟨rfl, _, World.drewN_drewN _ _ _⟩ | exact ⟨rfl, _, Eq.trans (World.drewN_drewN _ _ _) (congrArg (World.drewN _) (Nat.add_assoc _ _ _))⟩)))
        repeat (go_quiet (first | (go_at_call 103; (with_reducible refine (reticuleref01_truth.calls ((rd l1 0) == (rd l1 (ji4))) t227 _ A11.out).mono ?_); rintro e w' ⟨rfl, ⟨nd, rfl⟩⟩; (try first | exact ⟨rfl, _, World.drewN_drewN _ _ _⟩ | exact ⟨rfl, _, Eq.trans (World.drewN_drewN _ _ _) (congrArg (World.drewN _) (Nat.add_assoc _ _ _))⟩))); try go_wp2_with (first | (go_at_call 103; (with_reducible refine (reticuleref01_truth.calls ((rd l1 0) == (rd l1 (ji4))) t227 _ A11.out).mono ?_); rintro e w' ⟨rfl, ⟨nd, rfl⟩⟩; (try first | exact ⟨rfl, _, World.drewN_drewN _ _ _⟩ | exact ⟨rfl, _, Eq.trans (World.drewN_drewN _ _ _) (congrArg (World.drewN _) (Nat.add_assoc _ _ _))⟩))))
        go_ret
        exact ⟨by first | rfl | (simp; done) | (simp only [← hji4] <;> (first | rfl | simp)) | (simp [*]; done), by repeat (first | exact Drawn0.refl _ | apply Drawn0.step)⟩
       ·rw [if_neg c10] at H
        have c10b0 : (a0 == 13) = false := beq_eq_false_iff_ne.mpr c10
        have c10b1 : (a0 != 13) = true := bne_iff_ne.mpr c10
        by_cases c12 : a0 = 14
        ·rw [if_pos c12] at H
         have c12b0 : (a0 == 14) = true := beq_iff_eq.mpr c12
         have c12b1 : (a0 != 14) = false := bne_eq_false_iff_eq.mpr c12
         clear c12
         replace H := Option.bind_eq_some_iff.mp H
         obtain ⟨t228, A130, H⟩ := H
         replace H : (some t228) = some r := H
         have A13 := Aside0.mk A130
         clear A130
         obtain rfl := Option.some.inj H
         have p225 : 0 ≤ (0 : Int) := (by omega)
         have q225 : 0 < (l1.length : Int) := of_decide_eq_true (by first | (with_reducible assumption) | assumption)
         obtain ⟨ad225, e225, hx225_0⟩ := Kd.at_int HR1.out 0 p225 q225
         cases e225
         have qi225 : (0 < l1.length) = True := eq_true (by omega)
         (try rw [show ((0 : Int)).toNat = 0 from rfl] at hx225_0)
         (try rw [Addr.add_zero'] at hx225_0)
         replace p225 := eq_true p225
         replace q225 := eq_true q225
         have p226 : 0 ≤ ((ji4) : Int) := of_decide_eq_true (by first | (with_reducible assumption) | assumption)
         have q226 : (ji4) < (l1.length : Int) := of_decide_eq_true (by first | (with_reducible assumption) | assumption)
         obtain ⟨ad226, e226, hx226_0⟩ := Kd.at_int HR1.out (ji4) p226 q226
         obtain rfl : ad225 = ad226 := (by injection e226)
         replace p226 := eq_true p226
         replace q226 := eq_true q226
         go_enter Try.func81, Try.ntmps81
         go_wp2_with (first | (go_at_call 103; (with_reducible refine (reticuleref01_truth.calls (decide ((rd l1 0) < (rd l1 (ji4)))) t228 _ A13.out).mono ?_); rintro e w' ⟨rfl, ⟨nd, rfl⟩⟩; (try first | exact ⟨rfl, _, World.drewN_drewN _ _ _⟩ | exact ⟨rfl, _, Eq.trans (World.drewN_drewN _ _ _) (congrArg (World.drewN _) (Nat.add_assoc _ _ _))⟩)))
         repeat (go_quiet (first | (go_at_call 103; (with_reducible refine (reticuleref01_truth.calls (decide ((rd l1 0) < (rd l1 (ji4)))) t228 _ A13.out).mono ?_); rintro e w' ⟨rfl, ⟨nd, rfl⟩⟩; (try first | exact ⟨rfl, _, World.drewN_drewN _ _ _⟩ | exact ⟨rfl, _, Eq.trans (World.drewN_drewN _ _ _) (congrArg (World.drewN _) (Nat.add_assoc _ _ _))⟩))); try go_wp2_with (first | (go_at_call 103; (with_reducible refine (reticuleref01_truth.calls (decide ((rd l1 0) < (rd l1 (ji4)))) t228 _ A13.out).mono ?_); rintro e w' ⟨rfl, ⟨nd, rfl⟩⟩; (try first | exact ⟨rfl, _, World.drewN_drewN _ _ _⟩ | exact ⟨rfl, _, Eq.trans (World.drewN_drewN _ _ _) (congrArg (World.drewN _) (Nat.add_assoc _ _ _))⟩))))
         go_ret
         exact ⟨by first | rfl | (simp; done) | (simp only [← hji4] <;> (first | rfl | simp)) | (simp [*]; done), by repeat (first | exact Drawn0.refl _ | apply Drawn0.step)⟩
        ·rw [if_neg c12] at H
         have c12b0 : (a0 == 14) = false := beq_eq_false_iff_ne.mpr c12
         have c12b1 : (a0 != 14) = true := bne_iff_ne.mpr c12
         by_cases c14 : a0 = 15
         ·rw [if_pos c14] at H
          have c14b0 : (a0 == 15) = true := beq_iff_eq.mpr c14
          have c14b1 : (a0 != 15) = false := bne_eq_false_iff_eq.mpr c14
          clear c14
          replace H := Option.bind_eq_some_iff.mp H
          obtain ⟨t229, A150, H⟩ := H
          replace H : ((reticuleref01_truth.f (!t229)).bind fun t230 => (some t230)) = some r := H
          have A15 := Aside0.mk A150
          clear A150
          replace H := Option.bind_eq_some_iff.mp H
          obtain ⟨t230, A160, H⟩ := H
          replace H : (some t230) = some r := H
          have A16 := Aside0.mk A160
          clear A160
          obtain rfl := Option.some.inj H
          have p225 : 0 ≤ (0 : Int) := (by omega)
          have q225 : 0 < (l1.length : Int) := of_decide_eq_true (by first | (with_reducible assumption) | assumption)
          obtain ⟨ad225, e225, hx225_0⟩ := Kd.at_int HR1.out 0 p225 q225
          cases e225
          have qi225 : (0 < l1.length) = True := eq_true (by omega)
          (try rw [show ((0 : Int)).toNat = 0 from rfl] at hx225_0)
          (try rw [Addr.add_zero'] at hx225_0)
          replace p225 := eq_true p225
          replace q225 := eq_true q225
          have p226 : 0 ≤ ((ji4) : Int) := of_decide_eq_true (by first | (with_reducible assumption) | assumption)
          have q226 : (ji4) < (l1.length : Int) := of_decide_eq_true (by first | (with_reducible assumption) | assumption)
          obtain ⟨ad226, e226, hx226_0⟩ := Kd.at_int HR1.out (ji4) p226 q226
          obtain rfl : ad225 = ad226 := (by injection e226)
          replace p226 := eq_true p226
          replace q226 := eq_true q226
          go_enter Try.func81, Try.ntmps81
          go_wp2_with (first | (go_at_call 104; (with_reducible refine (reticuleref01_Truth.calls (rd l1 0) t229 _ A15.out).mono ?_); rintro e w' ⟨rfl, ⟨nd, rfl⟩⟩; (try first | exact ⟨rfl, _, World.drewN_drewN _ _ _⟩ | exact ⟨rfl, _, Eq.trans (World.drewN_drewN _ _ _) (congrArg (World.drewN _) (Nat.add_assoc _ _ _))⟩)) | (go_at_call 103; (with_reducible refine (reticuleref01_truth.calls (!t229) t230 _ A16.out).mono ?_); rintro e w' ⟨rfl, ⟨nd, rfl⟩⟩; (try first | exact ⟨rfl, _, World.drewN_drewN _ _ _⟩ | exact ⟨rfl, _, Eq.trans (World.drewN_drewN _ _ _) (congrArg (World.drewN _) (Nat.add_assoc _ _ _))⟩)))
          repeat (go_quiet (first | (go_at_call 104; (with_reducible refine (reticuleref01_Truth.calls (rd l1 0) t229 _ A15.out).mono ?_); rintro e w' ⟨rfl, ⟨nd, rfl⟩⟩; (try first | exact ⟨rfl, _, World.drewN_drewN _ _ _⟩ | exact ⟨rfl, _, Eq.trans (World.drewN_drewN _ _ _) (congrArg (World.drewN _) (Nat.add_assoc _ _ _))⟩)) | (go_at_call 103; (with_reducible refine (reticuleref01_truth.calls (!t229) t230 _ A16.out).mono ?_); rintro e w' ⟨rfl, ⟨nd, rfl⟩⟩; (try first | exact ⟨rfl, _, World.drewN_drewN _ _ _⟩ | exact ⟨rfl, _, Eq.trans (World.drewN_drewN _ _ _) (congrArg (World.drewN _) (Nat.add_assoc _ _ _))⟩))); try go_wp2_with (first | (go_at_call 104; (with_reducible refine (reticuleref01_Truth.calls (rd l1 0) t229 _ A15.out).mono ?_); rintro e w' ⟨rfl, ⟨nd, rfl⟩⟩; (try first | exact ⟨rfl, _, World.drewN_drewN _ _ _⟩ | exact ⟨rfl, _, Eq.trans (World.drewN_drewN _ _ _) (congrArg (World.drewN _) (Nat.add_assoc _ _ _))⟩)) | (go_at_call 103; (with_reducible refine (reticuleref01_truth.calls (!t229) t230 _ A16.out).mono ?_); rintro e w' ⟨rfl, ⟨nd, rfl⟩⟩; (try first | exact ⟨rfl, _, World.drewN_drewN _ _ _⟩ | exact ⟨rfl, _, Eq.trans (World.drewN_drewN _ _ _) (congrArg (World.drewN _) (Nat.add_assoc _ _ _))⟩))))
          go_ret
          exact ⟨by first | rfl | (simp; done) | (simp only [← hji4] <;> (first | rfl | simp)) | (simp [*]; done), by repeat (first | exact Drawn0.refl _ | apply Drawn0.step)⟩
         ·rw [if_neg c14] at H
          have c14b0 : (a0 == 15) = false := beq_eq_false_iff_ne.mpr c14
          have c14b1 : (a0 != 15) = true := bne_iff_ne.mpr c14
          by_cases c17 : a0 = 16
          ·rw [if_pos c17] at H
           have c17b0 : (a0 == 16) = true := beq_iff_eq.mpr c17
           have c17b1 : (a0 != 16) = false := bne_eq_false_iff_eq.mpr c17
           clear c17
           replace H := Option.bind_eq_some_iff.mp H
           obtain ⟨t231, A180, H⟩ := H
           replace H : (if t231 = true then ((reticuleref01_Truth.f (rd l1 (ji4))).bind fun t232 => ((reticuleref01_truth.f t232).bind fun t233 => (some t233))) else ((reticuleref01_truth.f false).bind fun t234 => (some t234))) = some r := H
           have A18 := Aside0.mk A180
           clear A180
           by_cases c19 : t231 = true
           ·subst c19
            have H1 : ((reticuleref01_Truth.f (rd l1 (ji4))).bind fun t232 => ((reticuleref01_truth.f t232).bind fun t233 => (some t233))) = some r := by rw [if_pos rfl] at H; exact H
            clear H
            have H := H1
            clear H1
            replace H := Option.bind_eq_some_iff.mp H
            obtain ⟨t232, A200, H⟩ := H
            replace H : ((reticuleref01_truth.f t232).bind fun t233 => (some t233)) = some r := H
            have A20 := Aside0.mk A200
            clear A200
            replace H := Option.bind_eq_some_iff.mp H
            obtain ⟨t233, A210, H⟩ := H
            replace H : (some t233) = some r := H
            have A21 := Aside0.mk A210
            clear A210
            obtain rfl := Option.some.inj H
            have p225 : 0 ≤ (0 : Int) := (by omega)
            have q225 : 0 < (l1.length : Int) := of_decide_eq_true (by first | (with_reducible assumption) | assumption)
            obtain ⟨ad225, e225, hx225_0⟩ := Kd.at_int HR1.out 0 p225 q225
            cases e225
            have qi225 : (0 < l1.length) = True := eq_true (by omega)
            (try rw [show ((0 : Int)).toNat = 0 from rfl] at hx225_0)
            (try rw [Addr.add_zero'] at hx225_0)
            replace p225 := eq_true p225
            replace q225 := eq_true q225
            have p226 : 0 ≤ ((ji4) : Int) := of_decide_eq_true (by first | (with_reducible assumption) | assumption)
            have q226 : (ji4) < (l1.length : Int) := of_decide_eq_true (by first | (with_reducible assumption) | assumption)
            obtain ⟨ad226, e226, hx226_0⟩ := Kd.at_int HR1.out (ji4) p226 q226
            obtain rfl : ad225 = ad226 := (by injection e226)
            replace p226 := eq_true p226
            replace q226 := eq_true q226
            go_enter Try.func81, Try.ntmps81
            go_wp2_with (first | (go_at_call 104; (with_reducible refine (reticuleref01_Truth.calls (rd l1 0) true _ A18.out).mono ?_); rintro e w' ⟨rfl, ⟨nd, rfl⟩⟩; (try first | exact ⟨rfl, _, World.drewN_drewN _ _ _⟩ | exact ⟨rfl, _, Eq.trans (World.drewN_drewN _ _ _) (congrArg (World.drewN _) (Nat.add_assoc _ _ _))⟩)) | (go_at_call 104; (with_reducible refine (reticuleref01_Truth.calls (rd l1 (ji4)) t232 _ A20.out).mono ?_); rintro e w' ⟨rfl, ⟨nd, rfl⟩⟩; (try first | exact ⟨rfl, _, World.drewN_drewN _ _ _⟩ | exact ⟨rfl, _, Eq.trans (World.drewN_drewN _ _ _) (congrArg (World.drewN _) (Nat.add_assoc _ _ _))⟩)) | (go_at_call 103; (with_reducible refine (reticuleref01_truth.calls t232 t233 _ A21.out).mono ?_); rintro e w' ⟨rfl, ⟨nd, rfl⟩⟩; (try first | exact ⟨rfl, _, World.drewN_drewN _ _ _⟩ | exact ⟨rfl, _, Eq.trans (World.drewN_drewN _ _ _) (congrArg (World.drewN _) (Nat.add_assoc _ _ _))⟩)))
            repeat (go_quiet (first | (go_at_call 104; (with_reducible refine (reticuleref01_Truth.calls (rd l1 0) true _ A18.out).mono ?_); rintro e w' ⟨rfl, ⟨nd, rfl⟩⟩; (try first | exact ⟨rfl, _, World.drewN_drewN _ _ _⟩ | exact ⟨rfl, _, Eq.trans (World.drewN_drewN _ _ _) (congrArg (World.drewN _) (Nat.add_assoc _ _ _))⟩)) | (go_at_call 104; (with_reducible refine (reticuleref01_Truth.calls (rd l1 (ji4)) t232 _ A20.out).mono ?_); rintro e w' ⟨rfl, ⟨nd, rfl⟩⟩; (try first | exact ⟨rfl, _, World.drewN_drewN _ _ _⟩ | exact ⟨rfl, _, Eq.trans (World.drewN_drewN _ _ _) (congrArg (World.drewN _) (Nat.add_assoc _ _ _))⟩)) | (go_at_call 103; (with_reducible refine (reticuleref01_truth.calls t232 t233 _ A21.out).mono ?_); rintro e w' ⟨rfl, ⟨nd, rfl⟩⟩; (try first | exact ⟨rfl, _, World.drewN_drewN _ _ _⟩ | exact ⟨rfl, _, Eq.trans (World.drewN_drewN _ _ _) (congrArg (World.drewN _) (Nat.add_assoc _ _ _))⟩))); try go_wp2_with (first | (go_at_call 104; (with_reducible refine (reticuleref01_Truth.calls (rd l1 0) true _ A18.out).mono ?_); rintro e w' ⟨rfl, ⟨nd, rfl⟩⟩; (try first | exact ⟨rfl, _, World.drewN_drewN _ _ _⟩ | exact ⟨rfl, _, Eq.trans (World.drewN_drewN _ _ _) (congrArg (World.drewN _) (Nat.add_assoc _ _ _))⟩)) | (go_at_call 104; (with_reducible refine (reticuleref01_Truth.calls (rd l1 (ji4)) t232 _ A20.out).mono ?_); rintro e w' ⟨rfl, ⟨nd, rfl⟩⟩; (try first | exact ⟨rfl, _, World.drewN_drewN _ _ _⟩ | exact ⟨rfl, _, Eq.trans (World.drewN_drewN _ _ _) (congrArg (World.drewN _) (Nat.add_assoc _ _ _))⟩)) | (go_at_call 103; (with_reducible refine (reticuleref01_truth.calls t232 t233 _ A21.out).mono ?_); rintro e w' ⟨rfl, ⟨nd, rfl⟩⟩; (try first | exact ⟨rfl, _, World.drewN_drewN _ _ _⟩ | exact ⟨rfl, _, Eq.trans (World.drewN_drewN _ _ _) (congrArg (World.drewN _) (Nat.add_assoc _ _ _))⟩))))
            go_ret
            exact ⟨by first | rfl | (simp; done) | (simp only [← hji4] <;> (first | rfl | simp)) | (simp [*]; done), by repeat (first | exact Drawn0.refl _ | apply Drawn0.step)⟩
           ·replace c19 := Bool.eq_false_iff.mpr c19
            subst c19
            have H1 : ((reticuleref01_truth.f false).bind fun t234 => (some t234)) = some r := by rw [if_neg (show ¬ (false = true) by decide)] at H; exact H
            clear H
            have H := H1
            clear H1
            replace H := Option.bind_eq_some_iff.mp H
            obtain ⟨t234, A220, H⟩ := H
            replace H : (some t234) = some r := H
            have A22 := Aside0.mk A220
            clear A220
            obtain rfl := Option.some.inj H
            have p225 : 0 ≤ (0 : Int) := (by omega)
            have q225 : 0 < (l1.length : Int) := of_decide_eq_true (by first | (with_reducible assumption) | assumption)
            obtain ⟨ad225, e225, hx225_0⟩ := Kd.at_int HR1.out 0 p225 q225
            cases e225
            have qi225 : (0 < l1.length) = True := eq_true (by omega)
            (try rw [show ((0 : Int)).toNat = 0 from rfl] at hx225_0)
            (try rw [Addr.add_zero'] at hx225_0)
            replace p225 := eq_true p225
            replace q225 := eq_true q225
            have p226 : 0 ≤ ((ji4) : Int) := of_decide_eq_true (by first | (with_reducible assumption) | assumption)
            have q226 : (ji4) < (l1.length : Int) := of_decide_eq_true (by first | (with_reducible assumption) | assumption)
            obtain ⟨ad226, e226, hx226_0⟩ := Kd.at_int HR1.out (ji4) p226 q226
            obtain rfl : ad225 = ad226 := (by injection e226)
            replace p226 := eq_true p226
            replace q226 := eq_true q226
            go_enter Try.func81, Try.ntmps81
            go_wp2_with (first | (go_at_call 104; (with_reducible refine (reticuleref01_Truth.calls (rd l1 0) false _ A18.out).mono ?_); rintro e w' ⟨rfl, ⟨nd, rfl⟩⟩; (try first | exact ⟨rfl, _, World.drewN_drewN _ _ _⟩ | exact ⟨rfl, _, Eq.trans (World.drewN_drewN _ _ _) (congrArg (World.drewN _) (Nat.add_assoc _ _ _))⟩)) | (go_at_call 103; (with_reducible refine (reticuleref01_truth.calls false t234 _ A22.out).mono ?_); rintro e w' ⟨rfl, ⟨nd, rfl⟩⟩; (try first | exact ⟨rfl, _, World.drewN_drewN _ _ _⟩ | exact ⟨rfl, _, Eq.trans (World.drewN_drewN _ _ _) (congrArg (World.drewN _) (Nat.add_assoc _ _ _))⟩)))
            repeat (go_quiet (first | (go_at_call 104; (with_reducible refine (reticuleref01_Truth.calls (rd l1 0) false _ A18.out).mono ?_); rintro e w' ⟨rfl, ⟨nd, rfl⟩⟩; (try first | exact ⟨rfl, _, World.drewN_drewN _ _ _⟩ | exact ⟨rfl, _, Eq.trans (World.drewN_drewN _ _ _) (congrArg (World.drewN _) (Nat.add_assoc _ _ _))⟩)) | (go_at_call 103; (with_reducible refine (reticuleref01_truth.calls false t234 _ A22.out).mono ?_); rintro e w' ⟨rfl, ⟨nd, rfl⟩⟩; (try first | exact ⟨rfl, _, World.drewN_drewN _ _ _⟩ | exact ⟨rfl, _, Eq.trans (World.drewN_drewN _ _ _) (congrArg (World.drewN _) (Nat.add_assoc _ _ _))⟩))); try go_wp2_with (first | (go_at_call 104; (with_reducible refine (reticuleref01_Truth.calls (rd l1 0) false _ A18.out).mono ?_); rintro e w' ⟨rfl, ⟨nd, rfl⟩⟩; (try first | exact ⟨rfl, _, World.drewN_drewN _ _ _⟩ | exact ⟨rfl, _, Eq.trans (World.drewN_drewN _ _ _) (congrArg (World.drewN _) (Nat.add_assoc _ _ _))⟩)) | (go_at_call 103; (with_reducible refine (reticuleref01_truth.calls false t234 _ A22.out).mono ?_); rintro e w' ⟨rfl, ⟨nd, rfl⟩⟩; (try first | exact ⟨rfl, _, World.drewN_drewN _ _ _⟩ | exact ⟨rfl, _, Eq.trans (World.drewN_drewN _ _ _) (congrArg (World.drewN _) (Nat.add_assoc _ _ _))⟩))))
            go_ret
            exact ⟨by first | rfl | (simp; done) | (simp only [← hji4] <;> (first | rfl | simp)) | (simp [*]; done), by repeat (first | exact Drawn0.refl _ | apply Drawn0.step)⟩
          ·rw [if_neg c17] at H
           have c17b0 : (a0 == 16) = false := beq_eq_false_iff_ne.mpr c17
           have c17b1 : (a0 != 16) = true := bne_iff_ne.mpr c17
           by_cases c23 : a0 = 17
           ·rw [if_pos c23] at H
            have c23b0 : (a0 == 17) = true := beq_iff_eq.mpr c23
            have c23b1 : (a0 != 17) = false := bne_eq_false_iff_eq.mpr c23
            clear c23
            replace H := Option.bind_eq_some_iff.mp H
            obtain ⟨t235, A240, H⟩ := H
            replace H : (if t235 = true then ((reticuleref01_truth.f true).bind fun t236 => (some t236)) else ((reticuleref01_Truth.f (rd l1 (ji4))).bind fun t237 => ((reticuleref01_truth.f t237).bind fun t238 => (some t238)))) = some r := H
            have A24 := Aside0.mk A240
            clear A240
            by_cases c25 : t235 = true
            ·subst c25
             have H1 : ((reticuleref01_truth.f true).bind fun t236 => (some t236)) = some r := by rw [if_pos rfl] at H; exact H
             clear H
             have H := H1
             clear H1
             replace H := Option.bind_eq_some_iff.mp H
             obtain ⟨t236, A260, H⟩ := H
             replace H : (some t236) = some r := H
             have A26 := Aside0.mk A260
             clear A260
             obtain rfl := Option.some.inj H
             have p225 : 0 ≤ (0 : Int) := (by omega)
             have q225 : 0 < (l1.length : Int) := of_decide_eq_true (by first | (with_reducible assumption) | assumption)
             obtain ⟨ad225, e225, hx225_0⟩ := Kd.at_int HR1.out 0 p225 q225
             cases e225
             have qi225 : (0 < l1.length) = True := eq_true (by omega)
             (try rw [show ((0 : Int)).toNat = 0 from rfl] at hx225_0)
             (try rw [Addr.add_zero'] at hx225_0)
             replace p225 := eq_true p225
             replace q225 := eq_true q225
             have p226 : 0 ≤ ((ji4) : Int) := of_decide_eq_true (by first | (with_reducible assumption) | assumption)
             have q226 : (ji4) < (l1.length : Int) := of_decide_eq_true (by first | (with_reducible assumption) | assumption)
             obtain ⟨ad226, e226, hx226_0⟩ := Kd.at_int HR1.out (ji4) p226 q226
             obtain rfl : ad225 = ad226 := (by injection e226)
             replace p226 := eq_true p226
             replace q226 := eq_true q226
             go_enter Try.func81, Try.ntmps81
             go_wp2_with (first | (go_at_call 104; (with_reducible refine (reticuleref01_Truth.calls (rd l1 0) true _ A24.out).mono ?_); rintro e w' ⟨rfl, ⟨nd, rfl⟩⟩; (try first | exact ⟨rfl, _, World.drewN_drewN _ _ _⟩ | exact ⟨rfl, _, Eq.trans (World.drewN_drewN _ _ _) (congrArg (World.drewN _) (Nat.add_assoc _ _ _))⟩)) | (go_at_call 103; (with_reducible refine (reticuleref01_truth.calls true t236 _ A26.out).mono ?_); rintro e w' ⟨rfl, ⟨nd, rfl⟩⟩; (try first | exact ⟨rfl, _, World.drewN_drewN _ _ _⟩ | exact ⟨rfl, _, Eq.trans (World.drewN_drewN _ _ _) (congrArg (World.drewN _) (Nat.add_assoc _ _ _))⟩)))
             repeat (go_quiet (first | (go_at_call 104; (with_reducible refine (reticuleref01_Truth.calls (rd l1 0) true _ A24.out).mono ?_); rintro e w' ⟨rfl, ⟨nd, rfl⟩⟩; (try first | exact ⟨rfl, _, World.drewN_drewN _ _ _⟩ | exact ⟨rfl, _, Eq.trans (World.drewN_drewN _ _ _) (congrArg (World.drewN _) (Nat.add_assoc _ _ _))⟩)) | (go_at_call 103; (with_reducible refine (reticuleref01_truth.calls true t236 _ A26.out).mono ?_); rintro e w' ⟨rfl, ⟨nd, rfl⟩⟩; (try first | exact ⟨rfl, _, World.drewN_drewN _ _ _⟩ | exact ⟨rfl, _, Eq.trans (World.drewN_drewN _ _ _) (congrArg (World.drewN _) (Nat.add_assoc _ _ _))⟩))); try go_wp2_with (first | (go_at_call 104; (with_reducible refine (reticuleref01_Truth.calls (rd l1 0) true _ A24.out).mono ?_); rintro e w' ⟨rfl, ⟨nd, rfl⟩⟩; (try first | exact ⟨rfl, _, World.drewN_drewN _ _ _⟩ | exact ⟨rfl, _, Eq.trans (World.drewN_drewN _ _ _) (congrArg (World.drewN _) (Nat.add_assoc _ _ _))⟩)) | (go_at_call 103; (with_reducible refine (reticuleref01_truth.calls true t236 _ A26.out).mono ?_); rintro e w' ⟨rfl, ⟨nd, rfl⟩⟩; (try first | exact ⟨rfl, _, World.drewN_drewN _ _ _⟩ | exact ⟨rfl, _, Eq.trans (World.drewN_drewN _ _ _) (congrArg (World.drewN _) (Nat.add_assoc _ _ _))⟩))))
             go_ret
             exact ⟨by first | rfl | (simp; done) | (simp only [← hji4] <;> (first | rfl | simp)) | (simp [*]; done), by repeat (first | exact Drawn0.refl _ | apply Drawn0.step)⟩
            ·replace c25 := Bool.eq_false_iff.mpr c25
             subst c25
             have H1 : ((reticuleref01_Truth.f (rd l1 (ji4))).bind fun t237 => ((reticuleref01_truth.f t237).bind fun t238 => (some t238))) = some r := by rw [if_neg (show ¬ (false = true) by decide)] at H; exact H
             clear H
             have H := H1
             clear H1
             replace H := Option.bind_eq_some_iff.mp H
             obtain ⟨t237, A270, H⟩ := H
             replace H : ((reticuleref01_truth.f t237).bind fun t238 => (some t238)) = some r := H
             have A27 := Aside0.mk A270
             clear A270
             replace H := Option.bind_eq_some_iff.mp H
             obtain ⟨t238, A280, H⟩ := H
             replace H : (some t238) = some r := H
             have A28 := Aside0.mk A280
             clear A280
             obtain rfl := Option.some.inj H
             have p225 : 0 ≤ (0 : Int) := (by omega)
             have q225 : 0 < (l1.length : Int) := of_decide_eq_true (by first | (with_reducible assumption) | assumption)
             obtain ⟨ad225, e225, hx225_0⟩ := Kd.at_int HR1.out 0 p225 q225
             cases e225
             have qi225 : (0 < l1.length) = True := eq_true (by omega)
             (try rw [show ((0 : Int)).toNat = 0 from rfl] at hx225_0)
             (try rw [Addr.add_zero'] at hx225_0)
             replace p225 := eq_true p225
             replace q225 := eq_true q225
             have p226 : 0 ≤ ((ji4) : Int) := of_decide_eq_true (by first | (with_reducible assumption) | assumption)
             have q226 : (ji4) < (l1.length : Int) := of_decide_eq_true (by first | (with_reducible assumption) | assumption)
             obtain ⟨ad226, e226, hx226_0⟩ := Kd.at_int HR1.out (ji4) p226 q226
             obtain rfl : ad225 = ad226 := (by injection e226)
             replace p226 := eq_true p226
             replace q226 := eq_true q226
             go_enter Try.func81, Try.ntmps81
             go_wp2_with (first | (go_at_call 104; (with_reducible refine (reticuleref01_Truth.calls (rd l1 0) false _ A24.out).mono ?_); rintro e w' ⟨rfl, ⟨nd, rfl⟩⟩; (try first | exact ⟨rfl, _, World.drewN_drewN _ _ _⟩ | exact ⟨rfl, _, Eq.trans (World.drewN_drewN _ _ _) (congrArg (World.drewN _) (Nat.add_assoc _ _ _))⟩)) | (go_at_call 104; (with_reducible refine (reticuleref01_Truth.calls (rd l1 (ji4)) t237 _ A27.out).mono ?_); rintro e w' ⟨rfl, ⟨nd, rfl⟩⟩; (try first | exact ⟨rfl, _, World.drewN_drewN _ _ _⟩ | exact ⟨rfl, _, Eq.trans (World.drewN_drewN _ _ _) (congrArg (World.drewN _) (Nat.add_assoc _ _ _))⟩)) | (go_at_call 103; (with_reducible refine (reticuleref01_truth.calls t237 t238 _ A28.out).mono ?_); rintro e w' ⟨rfl, ⟨nd, rfl⟩⟩; (try first | exact ⟨rfl, _, World.drewN_drewN _ _ _⟩ | exact ⟨rfl, _, Eq.trans (World.drewN_drewN _ _ _) (congrArg (World.drewN _) (Nat.add_assoc _ _ _))⟩)))
             repeat (go_quiet (first | (go_at_call 104; (with_reducible refine (reticuleref01_Truth.calls (rd l1 0) false _ A24.out).mono ?_); rintro e w' ⟨rfl, ⟨nd, rfl⟩⟩; (try first | exact ⟨rfl, _, World.drewN_drewN _ _ _⟩ | exact ⟨rfl, _, Eq.trans (World.drewN_drewN _ _ _) (congrArg (World.drewN _) (Nat.add_assoc _ _ _))⟩)) | (go_at_call 104; (with_reducible refine (reticuleref01_Truth.calls (rd l1 (ji4)) t237 _ A27.out).mono ?_); rintro e w' ⟨rfl, ⟨nd, rfl⟩⟩; (try first | exact ⟨rfl, _, World.drewN_drewN _ _ _⟩ | exact ⟨rfl, _, Eq.trans (World.drewN_drewN _ _ _) (congrArg (World.drewN _) (Nat.add_assoc _ _ _))⟩)) | (go_at_call 103; (with_reducible refine (reticuleref01_truth.calls t237 t238 _ A28.out).mono ?_); rintro e w' ⟨rfl, ⟨nd, rfl⟩⟩; (try first | exact ⟨rfl, _, World.drewN_drewN _ _ _⟩ | exact ⟨rfl, _, Eq.trans (World.drewN_drewN _ _ _) (congrArg (World.drewN _) (Nat.add_assoc _ _ _))⟩))); try go_wp2_with (first | (go_at_call 104; (with_reducible refine (reticuleref01_Truth.calls (rd l1 0) false _ A24.out).mono ?_); rintro e w' ⟨rfl, ⟨nd, rfl⟩⟩; (try first | exact ⟨rfl, _, World.drewN_drewN _ _ _⟩ | exact ⟨rfl, _, Eq.trans (World.drewN_drewN _ _ _) (congrArg (World.drewN _) (Nat.add_assoc _ _ _))⟩)) | (go_at_call 104; (with_reducible refine (reticuleref01_Truth.calls (rd l1 (ji4)) t237 _ A27.out).mono ?_); rintro e w' ⟨rfl, ⟨nd, rfl⟩⟩; (try first | exact ⟨rfl, _, World.drewN_drewN _ _ _⟩ | exact ⟨rfl, _, Eq.trans (World.drewN_drewN _ _ _) (congrArg (World.drewN _) (Nat.add_assoc _ _ _))⟩)) | (go_at_call 103; (with_reducible refine (reticuleref01_truth.calls t237 t238 _ A28.out).mono ?_); rintro e w' ⟨rfl, ⟨nd, rfl⟩⟩; (try first | exact ⟨rfl, _, World.drewN_drewN _ _ _⟩ | exact ⟨rfl, _, Eq.trans (World.drewN_drewN _ _ _) (congrArg (World.drewN _) (Nat.add_assoc _ _ _))⟩))))
             go_ret
             exact ⟨by first | rfl | (simp; done) | (simp only [← hji4] <;> (first | rfl | simp)) | (simp [*]; done), by repeat (first | exact Drawn0.refl _ | apply Drawn0.step)⟩
           ·rw [if_neg c23] at H
            have c23b0 : (a0 == 17) = false := beq_eq_false_iff_ne.mpr c23
            have c23b1 : (a0 != 17) = true := bne_iff_ne.mpr c23
            replace H := Option.bind_eq_some_iff.mp H
            obtain ⟨t239, A290, H⟩ := H
            replace H : (if t239 = true then (if 1 < (l1.length : Int) then (some (rd l1 1)) else (none)) else (some (rd l1 (ji4)))) = some r := H
            have A29 := Aside0.mk A290
            clear A290
            by_cases c30 : t239 = true
            ·subst c30
             have H1 : (if 1 < (l1.length : Int) then (some (rd l1 1)) else (none)) = some r := by rw [if_pos rfl] at H; exact H
             clear H
             have H := H1
             clear H1
             by_cases c31 : 1 < (l1.length : Int)
             ·rw [if_pos c31] at H
              have c31b0 : decide (1 < (l1.length : Int)) = true := decide_eq_true c31
              have c31b1 : decide (1 < l1.length) = true := decide_eq_true (by omega)
              clear c31
              obtain rfl := Option.some.inj H
              have p225 : 0 ≤ (0 : Int) := (by omega)
              have q225 : 0 < (l1.length : Int) := of_decide_eq_true (by first | (with_reducible assumption) | assumption)
              obtain ⟨ad225, e225, hx225_0⟩ := Kd.at_int HR1.out 0 p225 q225
              cases e225
              have qi225 : (0 < l1.length) = True := eq_true (by omega)
              (try rw [show ((0 : Int)).toNat = 0 from rfl] at hx225_0)
              (try rw [Addr.add_zero'] at hx225_0)
              replace p225 := eq_true p225
              replace q225 := eq_true q225
              have p226 : 0 ≤ ((ji4) : Int) := of_decide_eq_true (by first | (with_reducible assumption) | assumption)
              have q226 : (ji4) < (l1.length : Int) := of_decide_eq_true (by first | (with_reducible assumption) | assumption)
              obtain ⟨ad226, e226, hx226_0⟩ := Kd.at_int HR1.out (ji4) p226 q226
              obtain rfl : ad225 = ad226 := (by injection e226)
              replace p226 := eq_true p226
              replace q226 := eq_true q226
              go_enter Try.func81, Try.ntmps81
              go_wp2_with (first | (go_at_call 104; (with_reducible refine (reticuleref01_Truth.calls (rd l1 0) true _ A29.out).mono ?_); rintro e w' ⟨rfl, ⟨nd, rfl⟩⟩; (try first | exact ⟨rfl, _, World.drewN_drewN _ _ _⟩ | exact ⟨rfl, _, Eq.trans (World.drewN_drewN _ _ _) (congrArg (World.drewN _) (Nat.add_assoc _ _ _))⟩); have p240 : 0 ≤ (1 : Int) := (by omega); have q240 : 1 < (l1.length : Int) := of_decide_eq_true (by first | (with_reducible assumption) | assumption); obtain ⟨ad240, e240, hx240_0⟩ := Kd.at_int HR1.out 1 p240 q240; obtain rfl : ad225 = ad240 := (by injection e240); (try simp only [show (1 : Int).toNat = 1 from rfl, Nat.reduceMul, Nat.reduceEqDiff, Go.Addr.add, ↓reduceIte] at hx240_0); have qi240 : (1 < l1.length) = True := eq_true (by omega); (try rw [show ((1 : Int)).toNat = 1 from rfl] at hx240_0); replace p240 := eq_true p240; replace q240 := eq_true q240))
              repeat (go_quiet (first | (go_at_call 104; (with_reducible refine (reticuleref01_Truth.calls (rd l1 0) true _ A29.out).mono ?_); rintro e w' ⟨rfl, ⟨nd, rfl⟩⟩; (try first | exact ⟨rfl, _, World.drewN_drewN _ _ _⟩ | exact ⟨rfl, _, Eq.trans (World.drewN_drewN _ _ _) (congrArg (World.drewN _) (Nat.add_assoc _ _ _))⟩); have p240 : 0 ≤ (1 : Int) := (by omega); have q240 : 1 < (l1.length : Int) := of_decide_eq_true (by first | (with_reducible assumption) | assumption); obtain ⟨ad240, e240, hx240_0⟩ := Kd.at_int HR1.out 1 p240 q240; obtain rfl : ad225 = ad240 := (by injection e240); (try simp only [show (1 : Int).toNat = 1 from rfl, Nat.reduceMul, Nat.reduceEqDiff, Go.Addr.add, ↓reduceIte] at hx240_0); have qi240 : (1 < l1.length) = True := eq_true (by omega); (try rw [show ((1 : Int)).toNat = 1 from rfl] at hx240_0); replace p240 := eq_true p240; replace q240 := eq_true q240)); try go_wp2_with (first | (go_at_call 104; (with_reducible refine (reticuleref01_Truth.calls (rd l1 0) true _ A29.out).mono ?_); rintro e w' ⟨rfl, ⟨nd, rfl⟩⟩; (try first | exact ⟨rfl, _, World.drewN_drewN _ _ _⟩ | exact ⟨rfl, _, Eq.trans (World.drewN_drewN _ _ _) (congrArg (World.drewN _) (Nat.add_assoc _ _ _))⟩); have p240 : 0 ≤ (1 : Int) := (by omega); have q240 : 1 < (l1.length : Int) := of_decide_eq_true (by first | (with_reducible assumption) | assumption); obtain ⟨ad240, e240, hx240_0⟩ := Kd.at_int HR1.out 1 p240 q240; obtain rfl : ad225 = ad240 := (by injection e240); (try simp only [show (1 : Int).toNat = 1 from rfl, Nat.reduceMul, Nat.reduceEqDiff, Go.Addr.add, ↓reduceIte] at hx240_0); have qi240 : (1 < l1.length) = True := eq_true (by omega); (try rw [show ((1 : Int)).toNat = 1 from rfl] at hx240_0); replace p240 := eq_true p240; replace q240 := eq_true q240)))
              go_ret
              exact ⟨by first | rfl | (simp; done) | (simp only [← hji4] <;> (first | rfl | simp)) | (simp [*]; done), by repeat (first | exact Drawn0.refl _ | apply Drawn0.step)⟩
             ·rw [if_neg c31] at H
              exact absurd H (by simp)
            ·replace c30 := Bool.eq_false_iff.mpr c30
             subst c30
             have H1 : (some (rd l1 (ji4))) = some r := by rw [if_neg (show ¬ (false = true) by decide)] at H; exact H
             clear H
             have H := H1
             clear H1
             obtain rfl := Option.some.inj H
             have p225 : 0 ≤ (0 : Int) := (by omega)
             have q225 : 0 < (l1.length : Int) := of_decide_eq_true (by first | (with_reducible assumption) | assumption)
             obtain ⟨ad225, e225, hx225_0⟩ := Kd.at_int HR1.out 0 p225 q225
             cases e225
             have qi225 : (0 < l1.length) = True := eq_true (by omega)
             (try rw [show ((0 : Int)).toNat = 0 from rfl] at hx225_0)
             (try rw [Addr.add_zero'] at hx225_0)
             replace p225 := eq_true p225
             replace q225 := eq_true q225
             have p226 : 0 ≤ ((ji4) : Int) := of_decide_eq_true (by first | (with_reducible assumption) | assumption)
             have q226 : (ji4) < (l1.length : Int) := of_decide_eq_true (by first | (with_reducible assumption) | assumption)
             obtain ⟨ad226, e226, hx226_0⟩ := Kd.at_int HR1.out (ji4) p226 q226
             obtain rfl : ad225 = ad226 := (by injection e226)
             replace p226 := eq_true p226
             replace q226 := eq_true q226
             go_enter Try.func81, Try.ntmps81
             go_wp2_with (first | (go_at_call 104; (with_reducible refine (reticuleref01_Truth.calls (rd l1 0) false _ A29.out).mono ?_); rintro e w' ⟨rfl, ⟨nd, rfl⟩⟩; (try first | exact ⟨rfl, _, World.drewN_drewN _ _ _⟩ | exact ⟨rfl, _, Eq.trans (World.drewN_drewN _ _ _) (congrArg (World.drewN _) (Nat.add_assoc _ _ _))⟩)))
             repeat (go_quiet (first | (go_at_call 104; (with_reducible refine (reticuleref01_Truth.calls (rd l1 0) false _ A29.out).mono ?_); rintro e w' ⟨rfl, ⟨nd, rfl⟩⟩; (try first | exact ⟨rfl, _, World.drewN_drewN _ _ _⟩ | exact ⟨rfl, _, Eq.trans (World.drewN_drewN _ _ _) (congrArg (World.drewN _) (Nat.add_assoc _ _ _))⟩))); try go_wp2_with (first | (go_at_call 104; (with_reducible refine (reticuleref01_Truth.calls (rd l1 0) false _ A29.out).mono ?_); rintro e w' ⟨rfl, ⟨nd, rfl⟩⟩; (try first | exact ⟨rfl, _, World.drewN_drewN _ _ _⟩ | exact ⟨rfl, _, Eq.trans (World.drewN_drewN _ _ _) (congrArg (World.drewN _) (Nat.add_assoc _ _ _))⟩))))
             go_ret
             exact ⟨by first | rfl | (simp; done) | (simp only [← hji4] <;> (first | rfl | simp)) | (simp [*]; done), by repeat (first | exact Drawn0.refl _ | apply Drawn0.step)⟩
   ·rw [if_neg c6] at H
    exact absurd H (by simp)
  ·rw [if_neg c5] at H
   exact absurd H (by simp)
 ·rw [if_neg c3] at H
  exact absurd H (by simp)

end Go.Proofs.Ythmenclkgngkkaa.PA
