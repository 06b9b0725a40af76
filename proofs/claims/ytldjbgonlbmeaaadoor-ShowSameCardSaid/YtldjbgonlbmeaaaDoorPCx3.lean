-- Machine-made walks, written for this claim by a program of this session (plug.py).
import Derived.Test.YtldjbgonlbmeaaaDoorPCx0
namespace Go.Proofs.YtldjbgonlbmeaaaDoor.PC
open Go.RowKit Go.Proofs.YtldjbgonlbmeaaaDoor.PA Go.Proofs.YtldjbgonlbmeaaaDoor.T Go.Proofs.YtldjbgonlbmeaaaDoor.Nm Go.Proofs.YtldjbgonlbmeaaaDoor.Dig Go.Proofs.YtldjbgonlbmeaaaDoor.PB Go.Proofs.YtldjbgonlbmeaaaDoor.PR Go.Proofs.YtldjbgonlbmeaaaDoorW.PrintWords Go.Proofs.YtldjbgonlbmeaaaDoorW.PrintLast Go.Proofs.YtldjbgonlbmeaaaDoorW.PrintMore
attribute [local go_sem] max2_int min2_int max_two min_two max_three min_three max_four min_four   -- for this text's walks alone
set_option linter.unusedVariables false
set_option linter.unusedSimpArgs false

mutual
def show_Same.j0 : Nat → List (S61) → List (S61) → Bool → Option (Bool)
 | 0, _, _, _ => none
 | k + 1, x0, x2, x35 => if x35 = true then (some false) else (show_Same.l0 k x0 x2 (x0.length : Int) 0)
def show_Same.l0 : Nat → List (S61) → List (S61) → Int → Int → Option (Bool)
 | 0, _, _, _, _ => none
 | k + 1, x0, x2, x37, x38 => if x38 < x37 then (if 0 ≤ x38 then (if x38 < (x0.length : Int) then (if x38 < (x2.length : Int) then (if ((rd_T61 x0 x38).f0) = ((rd_T61 x2 x38).f0) then (if ((rd_T61 x0 x38).f1).toList = ((rd_T61 x2 x38).f1).toList then (if ((rd_T61 x0 x38).f2) = ((rd_T61 x2 x38).f2) then (if (((rd_T61 x0 x38).f3).length : Int) = (((rd_T61 x2 x38).f3).length : Int) then (show_Same.l0 k x0 x2 x37 (wrap64 (x38 + 1))) else (some false)) else (some false)) else (some false)) else (some false)) else (none)) else (none)) else (none)) else (some true)
end
def show_Same.f (k : Nat) (l0 : List (S61)) (l1 : List Int) (l2 : List (S61)) (l3 : List Int) : Option (Bool) := (tree_Right.f k l0 l1).bind fun t179 => (if t179 = true then ((tree_Right.f k l2 l3).bind fun t180 => (if t180 = true then (if (l0.length : Int) = (l2.length : Int) then (show_Same.j0 k l0 l2 ((l1.length : Int) != (l3.length : Int))) else (show_Same.j0 k l0 l2 true)) else (show_Same.j0 k l0 l2 true))) else (show_Same.j0 k l0 l2 true))
theorem show_Same.mono_l : ∀ k, (∀ y0 y1 y2, LeO (show_Same.j0 k y0 y1 y2) (show_Same.j0 (k + 1) y0 y1 y2)) ∧ (∀ y0 y1 y2 y3, LeO (show_Same.l0 k y0 y1 y2 y3) (show_Same.l0 (k + 1) y0 y1 y2 y3))
 | 0 => ⟨fun _ _ _ r h => by simp [show_Same.j0] at h, fun _ _ _ _ r h => by simp [show_Same.l0] at h⟩
 | k + 1 => by
  obtain ⟨ih0, ih1⟩ := show_Same.mono_l k
  refine ⟨?_, ?_⟩
  ·intro y0 y1 y2
   unfold show_Same.j0
   repeat' first
   | (with_reducible exact ih0 _ _ _)
   | (with_reducible exact ih1 _ _ _ _)
   | (with_reducible exact tree_Right.mono _ _ _)
   | (with_reducible exact LeO.refl _)
   | (with_reducible exact LeO.none _)
   | (with_reducible refine LeO.ite ?_ ?_)
   | (with_reducible refine LeO.bind ?_ (fun _ => ?_))
   | exact ih0 _ _ _
   | exact ih1 _ _ _ _
   | exact tree_Right.mono _ _ _
   | exact LeO.none _
   | refine LeO.ite ?_ ?_
   | refine LeO.bind ?_ (fun _ => ?_)
  ·intro y0 y1 y2 y3
   unfold show_Same.l0
   repeat' first
   | (with_reducible exact ih0 _ _ _)
   | (with_reducible exact ih1 _ _ _ _)
   | (with_reducible exact tree_Right.mono _ _ _)
   | (with_reducible exact LeO.refl _)
   | (with_reducible exact LeO.none _)
   | (with_reducible refine LeO.ite ?_ ?_)
   | (with_reducible refine LeO.bind ?_ (fun _ => ?_))
   | exact ih0 _ _ _
   | exact ih1 _ _ _ _
   | exact tree_Right.mono _ _ _
   | exact LeO.none _
   | refine LeO.ite ?_ ?_
   | refine LeO.bind ?_ (fun _ => ?_)
theorem show_Same.mono : ∀ a0 a1 a2 a3 k, LeO (show_Same.f k a0 a1 a2 a3) (show_Same.f (k + 1) a0 a1 a2 a3) := by
 intro a0 a1 a2 a3 k
 obtain ⟨ih0, ih1⟩ := show_Same.mono_l k
 unfold show_Same.f
 repeat' first
   | (with_reducible exact ih0 _ _ _)
   | (with_reducible exact ih1 _ _ _ _)
   | (with_reducible exact tree_Right.mono _ _ _)
   | (with_reducible exact LeO.refl _)
   | (with_reducible exact LeO.none _)
   | (with_reducible refine LeO.ite ?_ ?_)
   | (with_reducible refine LeO.bind ?_ (fun _ => ?_))
   | exact ih0 _ _ _
   | exact ih1 _ _ _ _
   | exact tree_Right.mono _ _ _
   | exact LeO.none _
   | refine LeO.ite ?_ ?_
   | refine LeO.bind ?_ (fun _ => ?_)
def show_Same.T6 : Bool × List (List Nat × List Nat) := (true, [([], []), ([], []), ([0, 1], [0, 1]), ([2], [2]), ([], []), ([], []), ([4, 5], [4, 5]), ([6], [6]), ([], []), ([], []), ([8, 3, 0, 1, 2, 3, 8, 9], [3, 8]), ([9, 7, 10, 0, 1, 2, 3, 4, 5, 6, 7, 8, 9, 10], [7, 9])])
def show_Same.B6 : List Nat := [0, 0, 3, 7, 0, 0, 48, 112, 0, 0, 783, 2047]
theorem show_Same.tab6 : rtab .any (opsOf Tryd.f16 6) = show_Same.T6 := by kernel_rfl
theorem show_Same.bits6 : waitsOk show_Same.T6.2 show_Same.B6 = true := by kernel_rfl
set_option maxHeartbeats 8000000 in
set_option maxRecDepth 100000 in
theorem show_Same.calls (k : Nat) (A0 : Option Addr) (c0 : Nat) (l0 : List (S61)) (A1 : Option Addr) (c1 : Nat) (l1 : List Int) (A2 : Option Addr) (c2 : Nat) (l2 : List (S61)) (A3 : Option Addr) (c3 : Nat) (l3 : List Int) (r : Bool) (w : World) (hr0 : Kd.C k61 w A0 l0.length l0) (hc0 : l0.length ≤ c0) (hr1 : Kd.C (Kd.int .i64) w A1 l1.length l1) (hc1 : l1.length ≤ c1) (hr2 : Kd.C k61 w A2 l2.length l2) (hc2 : l2.length ≤ c2) (hr3 : Kd.C (Kd.int .i64) w A3 l3.length l3) (hc3 : l3.length ≤ c3) (h : show_Same.f k l0 l1 l2 l3 = some r) :
  Calls Tryd.prog 16 #[.slice A0 l0.length c0, .slice A1 l1.length c1, .slice A2 l2.length c2, .slice A3 l3.length c3] w fun e w' => e = .returned (.bool r) ∧ Below w.heap.size w w' := by
 have hu61 := Tryd.underlying61
 have HR0 := Aside0.mk hr0
 have HC0 := Aside0.mk hc0
 clear hr0 hc0
 have HR1 := Aside0.mk hr1
 have HC1 := Aside0.mk hc1
 clear hr1 hc1
 have HR2 := Aside0.mk hr2
 have HC2 := Aside0.mk hc2
 clear hr2 hc2
 have HR3 := Aside0.mk hr3
 have HC3 := Aside0.mk hc3
 clear hr3 hc3
 have HB := Aside0.mk (Below.refl w.heap.size w)
 have H : ((tree_Right.f k l0 l1).bind fun t179 => (if t179 = true then ((tree_Right.f k l2 l3).bind fun t180 => (if t180 = true then (if (l0.length : Int) = (l2.length : Int) then (show_Same.j0 k l0 l2 ((l1.length : Int) != (l3.length : Int))) else (show_Same.j0 k l0 l2 true)) else (show_Same.j0 k l0 l2 true))) else (show_Same.j0 k l0 l2 true))) = some r := h
 clear h
 have HC5 := Aside0.mk H
 clear H
 go_enter Tryd.func16, Tryd.ntmps16
 go_upto_region 1 with (fail)
 go_cut [35] (fun v35 wc => ∃ (kq : Nat) (x35_4 : Bool), v35 = .bool x35_4 ∧ Aside0 (show_Same.j0 kq l0 l2 x35_4 = some r) ∧ Aside0 (kq ≤ k) ∧ Aside0 (Below w.heap.size w wc))
 case first =>
  have H := HC5.out
  clear HC5
  replace H := Option.bind_eq_some_iff.mp H
  obtain ⟨t179, A60, H⟩ := H
  replace H : (if t179 = true then ((tree_Right.f k l2 l3).bind fun t180 => (if t180 = true then (if (l0.length : Int) = (l2.length : Int) then (show_Same.j0 k l0 l2 ((l1.length : Int) != (l3.length : Int))) else (show_Same.j0 k l0 l2 true)) else (show_Same.j0 k l0 l2 true))) else (show_Same.j0 k l0 l2 true)) = some r := H
  have A6 := Aside0.mk A60
  clear A60
  by_cases c7 : t179 = true
  ·subst c7
   have H1 : ((tree_Right.f k l2 l3).bind fun t180 => (if t180 = true then (if (l0.length : Int) = (l2.length : Int) then (show_Same.j0 k l0 l2 ((l1.length : Int) != (l3.length : Int))) else (show_Same.j0 k l0 l2 true)) else (show_Same.j0 k l0 l2 true))) = some r := by rw [if_pos rfl] at H; exact H
   clear H
   have H := H1
   clear H1
   replace H := Option.bind_eq_some_iff.mp H
   obtain ⟨t180, A80, H⟩ := H
   replace H : (if t180 = true then (if (l0.length : Int) = (l2.length : Int) then (show_Same.j0 k l0 l2 ((l1.length : Int) != (l3.length : Int))) else (show_Same.j0 k l0 l2 true)) else (show_Same.j0 k l0 l2 true)) = some r := H
   have A8 := Aside0.mk A80
   clear A80
   by_cases c9 : t180 = true
   ·subst c9
    have H1 : (if (l0.length : Int) = (l2.length : Int) then (show_Same.j0 k l0 l2 ((l1.length : Int) != (l3.length : Int))) else (show_Same.j0 k l0 l2 true)) = some r := by rw [if_pos rfl] at H; exact H
    clear H
    have H := H1
    clear H1
    by_cases c10 : (l0.length : Int) = (l2.length : Int)
    ·rw [if_pos c10] at H
     have c10b0 : ((l0.length : Int) == (l2.length : Int)) = true := beq_iff_eq.mpr c10
     have c10b1 : ((l0.length : Int) != (l2.length : Int)) = false := bne_eq_false_iff_eq.mpr c10
     have c10b2 : (l0.length == l2.length) = true := by first | simpa using c10 | (simp at c10 ⊢; omega)
     clear c10
     (first | rw [c10b0] | (simp only [i64_w, i32_w]; rw [c10b0]) | skip)
     have H' := Aside0.mk H
     clear H
     go_wp2_with (first | ((with_reducible refine gate_callee (f := 18) rfl ?_); refine goesL_ (some 14) rfl rfl Tryd.func18 (by kernel_rfl) rfl #[.slice A0 l0.length c0, .slice A1 l1.length c1] rfl (by (try simp only [List.map_toArray, List.map_cons, List.map_nil]); first | done | rfl | (simp only [List.length_drop, List.length_take]; rfl)) ?_; (with_reducible refine (tree_Right.calls k _ _ l0 _ _ l1 true _ ?side1 ?side2 ?side3 ?side4 A6.out).mono ?_); (case side1 => repeat (first | exact (Kd.C_below HR0.out HB.out) | (with_reducible refine Kd.C_alloc ?_ _) | (with_reducible refine Kd.C_drewN ?_ _) | (with_reducible refine Kd.C_drew ?_))); (case side2 => exact HC0.out); (case side3 => repeat (first | exact (Kd.C_below HR1.out HB.out) | (with_reducible refine Kd.C_alloc ?_ _) | (with_reducible refine Kd.C_drewN ?_ _) | (with_reducible refine Kd.C_drew ?_))); (case side4 => exact HC1.out); rintro e w11 ⟨rfl, hb⟩; refine ⟨_, rfl, ?_⟩; have n0_ := Aside0.mk (below_step (by repeat (first | (with_reducible first | exact HB.out | apply below_alloc | apply pw_below_drewN | apply below_drew1) | exact HB.out | exact Below.refl _ _)) hb); clear HB; have HB := n0_; clear n0_; (try clear hb); (try clear hb2); (try clear hk); (try clear hi)) | (go_at_call 18; (with_reducible refine (tree_Right.calls k _ _ l2 _ _ l3 true _ ?side1 ?side2 ?side3 ?side4 A8.out).mono ?_); (case side1 => repeat (first | exact (Kd.C_below HR2.out HB.out) | (with_reducible refine Kd.C_alloc ?_ _) | (with_reducible refine Kd.C_drewN ?_ _) | (with_reducible refine Kd.C_drew ?_))); (case side2 => exact HC2.out); (case side3 => repeat (first | exact (Kd.C_below HR3.out HB.out) | (with_reducible refine Kd.C_alloc ?_ _) | (with_reducible refine Kd.C_drewN ?_ _) | (with_reducible refine Kd.C_drew ?_))); (case side4 => exact HC3.out); rintro e w12 ⟨rfl, hb⟩; have n0_ := Aside0.mk (below_step (by repeat (first | (with_reducible first | exact HB.out | apply below_alloc | apply pw_below_drewN | apply below_drew1) | exact HB.out | exact Below.refl _ _)) hb); clear HB; have HB := n0_; clear n0_; (try clear hb); (try clear hb2); (try clear hk); (try clear hi)))
     go_meet
     case rel => exact ⟨_, (((l1.length : Int) != (l3.length : Int))), (by first | rfl | (simp; done) | (simp [*]; done)), H', ⟨by first | omega | exact Nat.le_refl _⟩, ⟨by repeat (first | (with_reducible first | exact HB.out | apply below_alloc | apply pw_below_drewN | apply below_drew1) | exact HB.out | exact Below.refl _ _)⟩⟩
    ·rw [if_neg c10] at H
     have c10b0 : ((l0.length : Int) == (l2.length : Int)) = false := beq_eq_false_iff_ne.mpr c10
     have c10b1 : ((l0.length : Int) != (l2.length : Int)) = true := bne_iff_ne.mpr c10
     have c10b2 : (l0.length == l2.length) = false := by first | simpa using c10 | (simp at c10 ⊢; omega)
     (first | rw [c10b0] | (simp only [i64_w, i32_w]; rw [c10b0]) | skip)
     have H' := Aside0.mk H
     clear H
     go_wp2_with (first | ((with_reducible refine gate_callee (f := 18) rfl ?_); refine goesL_ (some 14) rfl rfl Tryd.func18 (by kernel_rfl) rfl #[.slice A0 l0.length c0, .slice A1 l1.length c1] rfl (by (try simp only [List.map_toArray, List.map_cons, List.map_nil]); first | done | rfl | (simp only [List.length_drop, List.length_take]; rfl)) ?_; (with_reducible refine (tree_Right.calls k _ _ l0 _ _ l1 true _ ?side1 ?side2 ?side3 ?side4 A6.out).mono ?_); (case side1 => repeat (first | exact (Kd.C_below HR0.out HB.out) | (with_reducible refine Kd.C_alloc ?_ _) | (with_reducible refine Kd.C_drewN ?_ _) | (with_reducible refine Kd.C_drew ?_))); (case side2 => exact HC0.out); (case side3 => repeat (first | exact (Kd.C_below HR1.out HB.out) | (with_reducible refine Kd.C_alloc ?_ _) | (with_reducible refine Kd.C_drewN ?_ _) | (with_reducible refine Kd.C_drew ?_))); (case side4 => exact HC1.out); rintro e w13 ⟨rfl, hb⟩; refine ⟨_, rfl, ?_⟩; have n0_ := Aside0.mk (below_step (by repeat (first | (with_reducible first | exact HB.out | apply below_alloc | apply pw_below_drewN | apply below_drew1) | exact HB.out | exact Below.refl _ _)) hb); clear HB; have HB := n0_; clear n0_; (try clear hb); (try clear hb2); (try clear hk); (try clear hi)) | (go_at_call 18; (with_reducible refine (tree_Right.calls k _ _ l2 _ _ l3 true _ ?side1 ?side2 ?side3 ?side4 A8.out).mono ?_); (case side1 => repeat (first | exact (Kd.C_below HR2.out HB.out) | (with_reducible refine Kd.C_alloc ?_ _) | (with_reducible refine Kd.C_drewN ?_ _) | (with_reducible refine Kd.C_drew ?_))); (case side2 => exact HC2.out); (case side3 => repeat (first | exact (Kd.C_below HR3.out HB.out) | (with_reducible refine Kd.C_alloc ?_ _) | (with_reducible refine Kd.C_drewN ?_ _) | (with_reducible refine Kd.C_drew ?_))); (case side4 => exact HC3.out); rintro e w14 ⟨rfl, hb⟩; have n0_ := Aside0.mk (below_step (by repeat (first | (with_reducible first | exact HB.out | apply below_alloc | apply pw_below_drewN | apply below_drew1) | exact HB.out | exact Below.refl _ _)) hb); clear HB; have HB := n0_; clear n0_; (try clear hb); (try clear hb2); (try clear hk); (try clear hi)))
     go_meet
     case rel => exact ⟨_, (true), (by first | rfl | (simp; done) | (simp [*]; done)), H', ⟨by first | omega | exact Nat.le_refl _⟩, ⟨by repeat (first | (with_reducible first | exact HB.out | apply below_alloc | apply pw_below_drewN | apply below_drew1) | exact HB.out | exact Below.refl _ _)⟩⟩
   ·replace c9 := Bool.eq_false_iff.mpr c9
    subst c9
    have H1 : (show_Same.j0 k l0 l2 true) = some r := by rw [if_neg (show ¬ (false = true) by decide)] at H; exact H
    clear H
    have H := H1
    clear H1
    have H' := Aside0.mk H
    clear H
    go_wp2_with (first | ((with_reducible refine gate_callee (f := 18) rfl ?_); refine goesL_ (some 14) rfl rfl Tryd.func18 (by kernel_rfl) rfl #[.slice A0 l0.length c0, .slice A1 l1.length c1] rfl (by (try simp only [List.map_toArray, List.map_cons, List.map_nil]); first | done | rfl | (simp only [List.length_drop, List.length_take]; rfl)) ?_; (with_reducible refine (tree_Right.calls k _ _ l0 _ _ l1 true _ ?side1 ?side2 ?side3 ?side4 A6.out).mono ?_); (case side1 => repeat (first | exact (Kd.C_below HR0.out HB.out) | (with_reducible refine Kd.C_alloc ?_ _) | (with_reducible refine Kd.C_drewN ?_ _) | (with_reducible refine Kd.C_drew ?_))); (case side2 => exact HC0.out); (case side3 => repeat (first | exact (Kd.C_below HR1.out HB.out) | (with_reducible refine Kd.C_alloc ?_ _) | (with_reducible refine Kd.C_drewN ?_ _) | (with_reducible refine Kd.C_drew ?_))); (case side4 => exact HC1.out); rintro e w15 ⟨rfl, hb⟩; refine ⟨_, rfl, ?_⟩; have n0_ := Aside0.mk (below_step (by repeat (first | (with_reducible first | exact HB.out | apply below_alloc | apply pw_below_drewN | apply below_drew1) | exact HB.out | exact Below.refl _ _)) hb); clear HB; have HB := n0_; clear n0_; (try clear hb); (try clear hb2); (try clear hk); (try clear hi)) | (go_at_call 18; (with_reducible refine (tree_Right.calls k _ _ l2 _ _ l3 false _ ?side1 ?side2 ?side3 ?side4 A8.out).mono ?_); (case side1 => repeat (first | exact (Kd.C_below HR2.out HB.out) | (with_reducible refine Kd.C_alloc ?_ _) | (with_reducible refine Kd.C_drewN ?_ _) | (with_reducible refine Kd.C_drew ?_))); (case side2 => exact HC2.out); (case side3 => repeat (first | exact (Kd.C_below HR3.out HB.out) | (with_reducible refine Kd.C_alloc ?_ _) | (with_reducible refine Kd.C_drewN ?_ _) | (with_reducible refine Kd.C_drew ?_))); (case side4 => exact HC3.out); rintro e w16 ⟨rfl, hb⟩; have n0_ := Aside0.mk (below_step (by repeat (first | (with_reducible first | exact HB.out | apply below_alloc | apply pw_below_drewN | apply below_drew1) | exact HB.out | exact Below.refl _ _)) hb); clear HB; have HB := n0_; clear n0_; (try clear hb); (try clear hb2); (try clear hk); (try clear hi)))
    go_meet
    case rel => exact ⟨_, (true), (by first | rfl | (simp; done) | (simp [*]; done)), H', ⟨by first | omega | exact Nat.le_refl _⟩, ⟨by repeat (first | (with_reducible first | exact HB.out | apply below_alloc | apply pw_below_drewN | apply below_drew1) | exact HB.out | exact Below.refl _ _)⟩⟩
  ·replace c7 := Bool.eq_false_iff.mpr c7
   subst c7
   have H1 : (show_Same.j0 k l0 l2 true) = some r := by rw [if_neg (show ¬ (false = true) by decide)] at H; exact H
   clear H
   have H := H1
   clear H1
   have H' := Aside0.mk H
   clear H
   go_wp2_with (first | ((with_reducible refine gate_callee (f := 18) rfl ?_); refine goesL_ (some 14) rfl rfl Tryd.func18 (by kernel_rfl) rfl #[.slice A0 l0.length c0, .slice A1 l1.length c1] rfl (by (try simp only [List.map_toArray, List.map_cons, List.map_nil]); first | done | rfl | (simp only [List.length_drop, List.length_take]; rfl)) ?_; (with_reducible refine (tree_Right.calls k _ _ l0 _ _ l1 false _ ?side1 ?side2 ?side3 ?side4 A6.out).mono ?_); (case side1 => repeat (first | exact (Kd.C_below HR0.out HB.out) | (with_reducible refine Kd.C_alloc ?_ _) | (with_reducible refine Kd.C_drewN ?_ _) | (with_reducible refine Kd.C_drew ?_))); (case side2 => exact HC0.out); (case side3 => repeat (first | exact (Kd.C_below HR1.out HB.out) | (with_reducible refine Kd.C_alloc ?_ _) | (with_reducible refine Kd.C_drewN ?_ _) | (with_reducible refine Kd.C_drew ?_))); (case side4 => exact HC1.out); rintro e w17 ⟨rfl, hb⟩; refine ⟨_, rfl, ?_⟩; have n0_ := Aside0.mk (below_step (by repeat (first | (with_reducible first | exact HB.out | apply below_alloc | apply pw_below_drewN | apply below_drew1) | exact HB.out | exact Below.refl _ _)) hb); clear HB; have HB := n0_; clear n0_; (try clear hb); (try clear hb2); (try clear hk); (try clear hi)))
   go_meet
   case rel => exact ⟨_, (true), (by first | rfl | (simp; done) | (simp [*]; done)), H', ⟨by first | omega | exact Nat.le_refl _⟩, ⟨by repeat (first | (with_reducible first | exact HB.out | apply below_alloc | apply pw_below_drewN | apply below_drew1) | exact HB.out | exact Below.refl _ _)⟩⟩
 case rest =>
  clear HC5
  try clear c1
  try clear c2
  try clear p2
  try clear c3
  try clear c7
  try clear c9
  try clear c10
  try clear c10b0
  try clear c10b1
  try clear c10b2
  try clear c16
  obtain ⟨kq, x35_4, rfl, HA, HJ4, HB⟩ := hcut
  cases kq with
  | zero => exact absurd HA.out (by simp [show_Same.j0])
  | succ kj4 =>
   have H := HA.out
   clear HA
   simp only [show_Same.j0] at H
   by_cases c18 : x35_4 = true
   ·subst c18
    have H1 : (some false) = some r := by rw [if_pos rfl] at H; exact H
    clear H
    have H := H1
    clear H1
    obtain rfl := Option.some.inj H
    go_wp2
    go_ret
    exact ⟨by first | rfl | (simp [errW_none, errW_some] <;> rfl) | (simp [*, errW_none, errW_some] <;> rfl), by repeat (first | (with_reducible first | exact HB.out | apply below_alloc | apply pw_below_drewN | apply below_drew1) | exact HB.out | exact Below.refl _ _)⟩
   ·replace c18 := Bool.eq_false_iff.mpr c18
    subst c18
    have H1 : (show_Same.l0 kj4 l0 l2 (l0.length : Int) 0) = some r := by rw [if_neg (show ¬ (false = true) by decide)] at H; exact H
    clear H
    have H := H1
    clear H1
    have H' := Aside0.mk H
    clear H
    go_wp2
    go_loopg [38] kj4 (fun kq v38 w' => ∃ (x38_2 : Int), v38 = .int .i64 x38_2 ∧ Aside0 (show_Same.l0 kq l0 l2 (l0.length : Int) x38_2 = some r) ∧ Aside0 (kq ≤ kj4) ∧ Aside0 (Below w.heap.size w w'))
    case atStart => exact ⟨(0), (by first | rfl | (simp; done) | (simp [*]; done)), H', ⟨Nat.le_refl _⟩, ⟨by repeat (first | (with_reducible first | exact HB.out | apply below_alloc | apply pw_below_drewN | apply below_drew1) | exact HB.out | exact Below.refl _ _)⟩⟩
    case round =>
     clear H'
     try clear c1
     try clear c2
     try clear p2
     try clear c3
     try clear c7
     try clear c9
     try clear c10
     try clear c10b0
     try clear c10b1
     try clear c10b2
     try clear c16
     try clear c18
     try clear p2
     obtain ⟨x38_2, rfl, HA, HK2, HB⟩ := hrel
     cases gk with
     | zero => exact absurd HA.out (by simp [show_Same.l0])
     | succ k2 =>
      have H := HA.out
      clear HA
      simp only [show_Same.l0] at H
      by_cases c19 : x38_2 < (l0.length : Int)
      ·rw [if_pos c19] at H
       have c19b0 : decide (x38_2 < (l0.length : Int)) = true := decide_eq_true c19
       clear c19
       by_cases c20 : 0 ≤ x38_2
       ·rw [if_pos c20] at H
        have c20b0 : decide (0 ≤ x38_2) = true := decide_eq_true c20
        clear c20
        by_cases c21 : x38_2 < (l0.length : Int)
        ·rw [if_pos c21] at H
         have c21b0 : decide (x38_2 < (l0.length : Int)) = true := decide_eq_true c21
         clear c21
         by_cases c22 : x38_2 < (l2.length : Int)
         ·rw [if_pos c22] at H
          have c22b0 : decide (x38_2 < (l2.length : Int)) = true := decide_eq_true c22
          clear c22
          by_cases c23 : ((rd_T61 l0 x38_2).f0) = ((rd_T61 l2 x38_2).f0)
          ·rw [if_pos c23] at H
           have c23b0 : (((rd_T61 l0 x38_2).f0) == ((rd_T61 l2 x38_2).f0)) = true := beq_iff_eq.mpr c23
           have c23b1 : (((rd_T61 l0 x38_2).f0) != ((rd_T61 l2 x38_2).f0)) = false := bne_eq_false_iff_eq.mpr c23
           clear c23
           by_cases c24 : ((rd_T61 l0 x38_2).f1).toList = ((rd_T61 l2 x38_2).f1).toList
           ·rw [if_pos c24] at H
            have c24b0 : (((rd_T61 l0 x38_2).f1).toList == ((rd_T61 l2 x38_2).f1).toList) = true := beq_iff_eq.mpr c24
            have c24b1 : (((rd_T61 l0 x38_2).f1).toList != ((rd_T61 l2 x38_2).f1).toList) = false := bne_eq_false_iff_eq.mpr c24
            clear c24
            by_cases c25 : ((rd_T61 l0 x38_2).f2) = ((rd_T61 l2 x38_2).f2)
            ·rw [if_pos c25] at H
             have c25b0 : (((rd_T61 l0 x38_2).f2) == ((rd_T61 l2 x38_2).f2)) = true := beq_iff_eq.mpr c25
             have c25b1 : (((rd_T61 l0 x38_2).f2) != ((rd_T61 l2 x38_2).f2)) = false := bne_eq_false_iff_eq.mpr c25
             clear c25
             by_cases c26 : (((rd_T61 l0 x38_2).f3).length : Int) = (((rd_T61 l2 x38_2).f3).length : Int)
             ·rw [if_pos c26] at H
              have c26b0 : ((((rd_T61 l0 x38_2).f3).length : Int) == (((rd_T61 l2 x38_2).f3).length : Int)) = true := beq_iff_eq.mpr c26
              have c26b1 : ((((rd_T61 l0 x38_2).f3).length : Int) != (((rd_T61 l2 x38_2).f3).length : Int)) = false := bne_eq_false_iff_eq.mpr c26
              have c26b2 : (((rd_T61 l0 x38_2).f3).length == ((rd_T61 l2 x38_2).f3).length) = true := by first | simpa using c26 | (simp at c26 ⊢; omega)
              clear c26
              have H' := Aside0.mk H
              clear H
              try go_wp2
              have n0_ := Aside0.mk (below_drew1 HB.out)
              clear HB
              have HB := n0_
              clear n0_
              have p181 : 0 ≤ (x38_2 : Int) := of_decide_eq_true (by first | (with_reducible assumption) | assumption)
              have q181 : x38_2 < (l0.length : Int) := of_decide_eq_true (by first | (with_reducible assumption) | assumption)
              obtain ⟨ad181, A181_3, c181_3, e181, hx181_0, hx181_1, hx181_2, hx181_3, hx181_4, hl181_3, hi181_3⟩ := at_T61 HR0.out x38_2 p181 q181
              have hw181_4 := hx181_4
              have hw181_3 := hx181_3
              have hw181_2 := hx181_2
              have hw181_1 := hx181_1
              have hw181_0 := hx181_0
              cases e181
              replace hx181_0 := (HB.out.cell (World.block_lt_of_cell? w _ hx181_0)).trans hx181_0
              replace hx181_1 := (HB.out.cell (World.block_lt_of_cell? w _ hx181_1)).trans hx181_1
              replace hx181_2 := (HB.out.cell (World.block_lt_of_cell? w _ hx181_2)).trans hx181_2
              replace hx181_3 := (HB.out.cell (World.block_lt_of_cell? w _ hx181_3)).trans hx181_3
              replace hx181_4 := (HB.out.cell (World.block_lt_of_cell? w _ hx181_4)).trans hx181_4
              have HR181_3 := Aside0.mk hi181_3
              have HC181_3 := Aside0.mk hl181_3
              clear hi181_3 hl181_3
              replace p181 := eq_true p181
              replace q181 := eq_true q181
              have p182 : 0 ≤ (x38_2 : Int) := of_decide_eq_true (by first | (with_reducible assumption) | assumption)
              have q182 : x38_2 < (l2.length : Int) := of_decide_eq_true (by first | (with_reducible assumption) | assumption)
              obtain ⟨ad182, A182_3, c182_3, e182, hx182_0, hx182_1, hx182_2, hx182_3, hx182_4, hl182_3, hi182_3⟩ := at_T61 HR2.out x38_2 p182 q182
              have hw182_4 := hx182_4
              have hw182_3 := hx182_3
              have hw182_2 := hx182_2
              have hw182_1 := hx182_1
              have hw182_0 := hx182_0
              cases e182
              replace hx182_0 := (HB.out.cell (World.block_lt_of_cell? w _ hx182_0)).trans hx182_0
              replace hx182_1 := (HB.out.cell (World.block_lt_of_cell? w _ hx182_1)).trans hx182_1
              replace hx182_2 := (HB.out.cell (World.block_lt_of_cell? w _ hx182_2)).trans hx182_2
              replace hx182_3 := (HB.out.cell (World.block_lt_of_cell? w _ hx182_3)).trans hx182_3
              replace hx182_4 := (HB.out.cell (World.block_lt_of_cell? w _ hx182_4)).trans hx182_4
              have HR182_3 := Aside0.mk hi182_3
              have HC182_3 := Aside0.mk hl182_3
              clear hi182_3 hl182_3
              replace p182 := eq_true p182
              replace q182 := eq_true q182
              refine start_ (n := 12) (S := fun w' => w'.cell? (ad181.add ((x38_2).toNat * 5)) = some (.int .u8 ((rd_T61 l0 x38_2).f0)) ∧ w'.cell? ⟨(ad181.add ((x38_2).toNat * 5)).block, (ad181.add ((x38_2).toNat * 5)).off + 1, none⟩ = some (.string ((rd_T61 l0 x38_2).f1)) ∧ w'.cell? ⟨(ad181.add ((x38_2).toNat * 5)).block, (ad181.add ((x38_2).toNat * 5)).off + 2, none⟩ = some (.int .i64 ((rd_T61 l0 x38_2).f2)) ∧ w'.cell? ⟨(ad181.add ((x38_2).toNat * 5)).block, (ad181.add ((x38_2).toNat * 5)).off + 3, none⟩ = some (.slice A181_3 ((rd_T61 l0 x38_2).f3).length c181_3) ∧ w'.cell? ⟨(ad181.add ((x38_2).toNat * 5)).block, (ad181.add ((x38_2).toNat * 5)).off + 4, none⟩ = some (.int .i64 ((rd_T61 l0 x38_2).f4)) ∧ w'.cell? (ad182.add ((x38_2).toNat * 5)) = some (.int .u8 ((rd_T61 l2 x38_2).f0)) ∧ w'.cell? ⟨(ad182.add ((x38_2).toNat * 5)).block, (ad182.add ((x38_2).toNat * 5)).off + 1, none⟩ = some (.string ((rd_T61 l2 x38_2).f1)) ∧ w'.cell? ⟨(ad182.add ((x38_2).toNat * 5)).block, (ad182.add ((x38_2).toNat * 5)).off + 2, none⟩ = some (.int .i64 ((rd_T61 l2 x38_2).f2)) ∧ w'.cell? ⟨(ad182.add ((x38_2).toNat * 5)).block, (ad182.add ((x38_2).toNat * 5)).off + 3, none⟩ = some (.slice A182_3 ((rd_T61 l2 x38_2).f3).length c182_3) ∧ w'.cell? ⟨(ad182.add ((x38_2).toNat * 5)).block, (ad182.add ((x38_2).toNat * 5)).off + 4, none⟩ = some (.int .i64 ((rd_T61 l2 x38_2).f4))) (ds := []) #[false,false,false,false,false,false,false,false,false,false,false,false] (by kernel_rfl) rfl rfl ⟨((HB.out.cell (World.block_lt_of_cell? w _ hw181_0)).trans hw181_0), ((HB.out.cell (World.block_lt_of_cell? w _ hw181_1)).trans hw181_1), ((HB.out.cell (World.block_lt_of_cell? w _ hw181_2)).trans hw181_2), ((HB.out.cell (World.block_lt_of_cell? w _ hw181_3)).trans hw181_3), ((HB.out.cell (World.block_lt_of_cell? w _ hw181_4)).trans hw181_4), ((HB.out.cell (World.block_lt_of_cell? w _ hw182_0)).trans hw182_0), ((HB.out.cell (World.block_lt_of_cell? w _ hw182_1)).trans hw182_1), ((HB.out.cell (World.block_lt_of_cell? w _ hw182_2)).trans hw182_2), ((HB.out.cell (World.block_lt_of_cell? w _ hw182_3)).trans hw182_3), ((HB.out.cell (World.block_lt_of_cell? w _ hw182_4)).trans hw182_4)⟩ (fun hHeld => ?_); refine with_tabW show_Same.tab6 show_Same.bits6 (fun HT_ HW_ => ?_)
              generalize wr.drew = w27 at HB HR181_3 HR182_3 hx181_0 hx181_1 hx181_2 hx181_3 hx181_4 hx182_0 hx182_1 hx182_2 hx182_3 hx182_4 hHeld ⊢
              refine pure_ (i := 0) (N := some 41) (v := ?_) (a' := ?_) #[true,false,false,false,false,false,false,false,false,false,false,false] rfl rfl (any_of HT_.out (by kernel_rfl)) (fun _ _ _ h => h) (Or.inl ⟨by rfl, ?_⟩) ?_ ?_
              rotate_left
              ·intro w'
               go_simp
               with_reducible rfl
              rotate_left
              ·simp only [Act.put, List.setIfInBounds_toArray, List.set_cons_zero, List.set_cons_succ, i64_w, i32_w]
               rfl
              refine pure_ (i := 1) (N := some 42) (v := ?_) (a' := ?_) #[true,true,false,false,false,false,false,false,false,false,false,false] rfl rfl (any_of HT_.out (by kernel_rfl)) (fun _ _ _ h => h) (Or.inl ⟨by rfl, ?_⟩) ?_ ?_
              rotate_left
              ·intro w'
               go_simp
               with_reducible rfl
              rotate_left
              ·simp only [Act.put, List.setIfInBounds_toArray, List.set_cons_zero, List.set_cons_succ, i64_w, i32_w]
               rfl
              refine pure_ (i := 2) (N := some 43) (v := ?_) (a' := ?_) #[true,true,true,false,false,false,false,false,false,false,false,false] rfl rfl (any_of HT_.out (by kernel_rfl)) (fun _ _ _ h => h) (Or.inl ⟨by rfl, ?_⟩) ?_ ?_
              rotate_left
              ·intro w'
               go_simp
               with_reducible rfl
              rotate_left
              ·simp only [Act.put, List.setIfInBounds_toArray, List.set_cons_zero, List.set_cons_succ, i64_w, i32_w]
               rfl
              refine pure_ (i := 4) (N := some 45) (v := ?_) (a' := ?_) #[true,true,true,false,true,false,false,false,false,false,false,false] rfl rfl (any_of HT_.out (by kernel_rfl)) (fun _ _ _ h => h) (Or.inl ⟨by rfl, ?_⟩) ?_ ?_
              rotate_left
              ·intro w'
               go_simp
               with_reducible rfl
              rotate_left
              ·simp only [Act.put, List.setIfInBounds_toArray, List.set_cons_zero, List.set_cons_succ, i64_w, i32_w]
               rfl
              refine pure_ (i := 5) (N := some 46) (v := ?_) (a' := ?_) #[true,true,true,false,true,true,false,false,false,false,false,false] rfl rfl (any_of HT_.out (by kernel_rfl)) (fun _ _ _ h => h) (Or.inl ⟨by rfl, ?_⟩) ?_ ?_
              rotate_left
              ·intro w'
               go_simp
               with_reducible rfl
              rotate_left
              ·simp only [Act.put, List.setIfInBounds_toArray, List.set_cons_zero, List.set_cons_succ, i64_w, i32_w]
               rfl
              refine pure_ (i := 6) (N := some 47) (v := ?_) (a' := ?_) #[true,true,true,false,true,true,true,false,false,false,false,false] rfl rfl (any_of HT_.out (by kernel_rfl)) (fun _ _ _ h => h) (Or.inl ⟨by rfl, ?_⟩) ?_ ?_
              rotate_left
              ·intro w'
               go_simp
               with_reducible rfl
              rotate_left
              ·simp only [Act.put, List.setIfInBounds_toArray, List.set_cons_zero, List.set_cons_succ, i64_w, i32_w]
               rfl
              refine take_ (i := 3) (N := some 44) (v := ?_) (a' := ?_) #[true,true,true,true,true,true,true,false,false,false,false,false] rfl rfl (take_ofW HT_.out HW_.out (by kernel_rfl)) (fun _ _ _ h => h) (Or.inl ⟨by rfl, ?_⟩) hHeld ?_ ?_
              rotate_left
              ·rintro w' ⟨s0, s1, s2, s3, s4, s5, s6, s7, s8, s9⟩
               go_simp
               with_reducible rfl
              rotate_left
              ·simp only [Act.put, List.setIfInBounds_toArray, List.set_cons_zero, List.set_cons_succ, i64_w, i32_w]
               rfl
              refine take_ (i := 7) (N := some 48) (v := ?_) (a' := ?_) #[true,true,true,true,true,true,true,true,false,false,false,false] rfl rfl (take_ofW HT_.out HW_.out (by kernel_rfl)) (fun _ _ _ h => h) (Or.inl ⟨by rfl, ?_⟩) hHeld ?_ ?_
              rotate_left
              ·rintro w' ⟨s0, s1, s2, s3, s4, s5, s6, s7, s8, s9⟩
               go_simp
               with_reducible rfl
              rotate_left
              ·simp only [Act.put, List.setIfInBounds_toArray, List.set_cons_zero, List.set_cons_succ, i64_w, i32_w]
               rfl
              refine join_ (σ := Nat × Nat) 2 #[true,true,true,true,true,true,true,true,true,true,false,false] (fun s_ => [(10, .pointer (some ⟨s_.1, 0, none⟩)), (11, .pointer (some ⟨s_.2, 0, none⟩))]) (fun s_ w' => (w'.cell? (ad181.add ((x38_2).toNat * 5)) = some (.int .u8 ((rd_T61 l0 x38_2).f0)) ∧ w'.cell? ⟨(ad181.add ((x38_2).toNat * 5)).block, (ad181.add ((x38_2).toNat * 5)).off + 1, none⟩ = some (.string ((rd_T61 l0 x38_2).f1)) ∧ w'.cell? ⟨(ad181.add ((x38_2).toNat * 5)).block, (ad181.add ((x38_2).toNat * 5)).off + 2, none⟩ = some (.int .i64 ((rd_T61 l0 x38_2).f2)) ∧ w'.cell? ⟨(ad181.add ((x38_2).toNat * 5)).block, (ad181.add ((x38_2).toNat * 5)).off + 3, none⟩ = some (.slice A181_3 ((rd_T61 l0 x38_2).f3).length c181_3) ∧ w'.cell? ⟨(ad181.add ((x38_2).toNat * 5)).block, (ad181.add ((x38_2).toNat * 5)).off + 4, none⟩ = some (.int .i64 ((rd_T61 l0 x38_2).f4)) ∧ w'.cell? (ad182.add ((x38_2).toNat * 5)) = some (.int .u8 ((rd_T61 l2 x38_2).f0)) ∧ w'.cell? ⟨(ad182.add ((x38_2).toNat * 5)).block, (ad182.add ((x38_2).toNat * 5)).off + 1, none⟩ = some (.string ((rd_T61 l2 x38_2).f1)) ∧ w'.cell? ⟨(ad182.add ((x38_2).toNat * 5)).block, (ad182.add ((x38_2).toNat * 5)).off + 2, none⟩ = some (.int .i64 ((rd_T61 l2 x38_2).f2)) ∧ w'.cell? ⟨(ad182.add ((x38_2).toNat * 5)).block, (ad182.add ((x38_2).toNat * 5)).off + 3, none⟩ = some (.slice A182_3 ((rd_T61 l2 x38_2).f3).length c182_3) ∧ w'.cell? ⟨(ad182.add ((x38_2).toNat * 5)).block, (ad182.add ((x38_2).toNat * 5)).off + 4, none⟩ = some (.int .i64 ((rd_T61 l2 x38_2).f4))) ∧ (w'.heap[s_.1]? = some (.cells #[.int .u8 0, .string (⟨#[]⟩ : ByteArray), .int .i64 0, .slice none 0 0, .int .i64 0] 61 (0, 0))) ∧ (w'.heap[s_.2]? = some (.cells #[.int .u8 0, .string (⟨#[]⟩ : ByteArray), .int .i64 0, .slice none 0 0, .int .i64 0] 61 (0, 0))) ∧ (w.heap.size ≤ s_.1) ∧ (w.heap.size ≤ s_.1) ∧ (s_.2 ≠ s_.1) ∧ (s_.1 ≠ s_.2) ∧ (w.heap.size ≤ s_.2) ∧ (w.heap.size ≤ s_.2) ∧ (Below w.heap.size w w')) ?_ ?_
              rotate_left
              ·intro hCont
               refine two_ (i := 8) (j := 9) (Ni := some 10) (Nj := some 11) #[true,true,true,true,true,true,true,true,true,false,false,false] #[true,true,true,true,true,true,true,true,false,true,false,false] rfl rfl rfl rfl (two_of HT_.out (by kernel_rfl)) (by decide) (by decide) (fun K hK => ?_) (fun K hK => ?_)
               ·skip
                refine box_step ?hg (N := 10) ?hd (cs := #[.int .u8 0, .string (⟨#[]⟩ : ByteArray), .int .i64 0, .slice none 0 0, .int .i64 0]) (t := 61) ?hr ?_; (case hd => rfl); (case hg => rfl); (case hr => first | (go_simp; done) | (go_simp; rfl))
                intro gb183 hg w28 hbox hb
                have n0_ := Aside0.mk (below_step (by repeat (first | (with_reducible first | exact HB.out | apply below_alloc | apply pw_below_drewN | apply below_drew1) | exact HB.out | exact Below.refl _ _)) hb)
                have n1_ := Aside0.mk (hbox)
                have n2_ := Aside0.mk ((by rw [hg]; exact (below_size (by repeat (first | (with_reducible first | exact HB.out | apply below_alloc | apply pw_below_drewN | apply below_drew1) | exact HB.out | exact Below.refl _ _))) : w.heap.size ≤ gb183))
                have n3_ := Aside0.mk ((by rw [hg]; exact (below_size (by repeat (first | (with_reducible first | exact HB.out | apply below_alloc | apply pw_below_drewN | apply below_drew1) | exact HB.out | exact Below.refl _ _))) : w.heap.size ≤ gb183))
                clear HB
                have HB := n0_
                have BK183 := n1_
                have GW183 := n2_
                have GE183 := n3_
                clear n0_ n1_ n2_ n3_
                clear hb hbox hg
                refine hK.out _ _ ⟨((HB.out.cell (World.block_lt_of_cell? w _ hw181_0)).trans hw181_0), ((HB.out.cell (World.block_lt_of_cell? w _ hw181_1)).trans hw181_1), ((HB.out.cell (World.block_lt_of_cell? w _ hw181_2)).trans hw181_2), ((HB.out.cell (World.block_lt_of_cell? w _ hw181_3)).trans hw181_3), ((HB.out.cell (World.block_lt_of_cell? w _ hw181_4)).trans hw181_4), ((HB.out.cell (World.block_lt_of_cell? w _ hw182_0)).trans hw182_0), ((HB.out.cell (World.block_lt_of_cell? w _ hw182_1)).trans hw182_1), ((HB.out.cell (World.block_lt_of_cell? w _ hw182_2)).trans hw182_2), ((HB.out.cell (World.block_lt_of_cell? w _ hw182_3)).trans hw182_3), ((HB.out.cell (World.block_lt_of_cell? w _ hw182_4)).trans hw182_4)⟩ (fun hHeld => ?_)
                clear hK K
                refine norm_ (a' := ?_) ?_ ?_
                rotate_left
                ·show Act.put _ (some 10) _ = _
                 simp only [Act.put, List.setIfInBounds_toArray, List.set_cons_zero, List.set_cons_succ, i64_w, i32_w]
                 rfl
                refine one_ (i := 9) (N := some 11) #[true,true,true,true,true,true,true,true,true,true,false,false] rfl rfl (one_of HT_.out (by kernel_rfl)) (by decide) (fun K hK => ?_)
                refine box_step ?hg (N := 11) ?hd (cs := #[.int .u8 0, .string (⟨#[]⟩ : ByteArray), .int .i64 0, .slice none 0 0, .int .i64 0]) (t := 61) ?hr ?_; (case hd => rfl); (case hg => rfl); (case hr => first | (go_simp; done) | (go_simp; rfl))
                intro gb184 hg w29 hbox hb
                have n0_ := Aside0.mk (blk_below (g := gb183) (o := .cells #[.int .u8 0, .string (⟨#[]⟩ : ByteArray), .int .i64 0, .slice none 0 0, .int .i64 0] 61 (0, 0)) (by (with_reducible repeat (first | refine blk_drewN ?_ _ | refine blk_drew ?_ | refine blk_alloc ?_ _)); exact BK183.out) hb)
                have n1_ := Aside0.mk (below_step (by repeat (first | (with_reducible first | exact HB.out | apply below_alloc | apply pw_below_drewN | apply below_drew1 | refine below_set ?_ GE183.out) | exact HB.out)) hb)
                have n2_ := Aside0.mk (hbox)
                have n3_ := Aside0.mk ((by rw [hg]; exact (below_size (by repeat (first | (with_reducible first | exact HB.out | apply below_alloc | apply pw_below_drewN | apply below_drew1 | refine below_set ?_ GE183.out) | exact HB.out))) : w.heap.size ≤ gb184))
                have n4_ := Aside0.mk ((by rw [hg]; exact (below_size (by repeat (first | (with_reducible first | exact HB.out | apply below_alloc | apply pw_below_drewN | apply below_drew1 | refine below_set ?_ GE183.out) | exact HB.out))) : w.heap.size ≤ gb184))
                have n5_ := Aside0.mk ((by rw [hg]; exact Nat.ne_of_lt (blk_lt (g := gb183) (o := .cells #[.int .u8 0, .string (⟨#[]⟩ : ByteArray), .int .i64 0, .slice none 0 0, .int .i64 0] 61 (0, 0)) (by (with_reducible repeat (first | refine blk_drewN ?_ _ | refine blk_drew ?_ | refine blk_alloc ?_ _)); exact BK183.out)) : gb183 ≠ gb184))
                have n6_ := Aside0.mk ((by rw [hg]; exact Nat.ne_of_gt (blk_lt (g := gb183) (o := .cells #[.int .u8 0, .string (⟨#[]⟩ : ByteArray), .int .i64 0, .slice none 0 0, .int .i64 0] 61 (0, 0)) (by (with_reducible repeat (first | refine blk_drewN ?_ _ | refine blk_drew ?_ | refine blk_alloc ?_ _)); exact BK183.out)) : gb184 ≠ gb183))
                clear BK183
                clear HB
                have BK183 := n0_
                have HB := n1_
                have BK184 := n2_
                have GW184 := n3_
                have GE184 := n4_
                have NB183_184 := n5_
                have NB184_183 := n6_
                clear n0_ n1_ n2_ n3_ n4_ n5_ n6_
                clear hb hbox hg
                refine hK.out _ _ ⟨((HB.out.cell (World.block_lt_of_cell? w _ hw181_0)).trans hw181_0), ((HB.out.cell (World.block_lt_of_cell? w _ hw181_1)).trans hw181_1), ((HB.out.cell (World.block_lt_of_cell? w _ hw181_2)).trans hw181_2), ((HB.out.cell (World.block_lt_of_cell? w _ hw181_3)).trans hw181_3), ((HB.out.cell (World.block_lt_of_cell? w _ hw181_4)).trans hw181_4), ((HB.out.cell (World.block_lt_of_cell? w _ hw182_0)).trans hw182_0), ((HB.out.cell (World.block_lt_of_cell? w _ hw182_1)).trans hw182_1), ((HB.out.cell (World.block_lt_of_cell? w _ hw182_2)).trans hw182_2), ((HB.out.cell (World.block_lt_of_cell? w _ hw182_3)).trans hw182_3), ((HB.out.cell (World.block_lt_of_cell? w _ hw182_4)).trans hw182_4)⟩ (fun hHeld => ?_)
                clear hK K
                refine norm_ (a' := ?_) ?_ ?_
                rotate_left
                ·show Act.put _ (some 11) _ = _
                 simp only [Act.put, List.setIfInBounds_toArray, List.set_cons_zero, List.set_cons_succ, i64_w, i32_w]
                 rfl
                exact norm_ (by simp only [putAll, Act.put, List.setIfInBounds_toArray, List.set_cons_zero, List.set_cons_succ]) (hCont (gb183, gb184) _ ⟨hHeld, (by (with_reducible repeat (first | refine blk_drewN ?_ _ | refine blk_drew ?_ | refine blk_alloc ?_ _)); exact BK183.out), (by (with_reducible repeat (first | refine blk_drewN ?_ _ | refine blk_drew ?_ | refine blk_alloc ?_ _)); exact BK184.out), GW183.out, GE183.out, NB184_183.out, NB183_184.out, GW184.out, GE184.out, (by repeat (first | (with_reducible first | exact HB.out | apply below_alloc | apply pw_below_drewN | apply below_drew1 | refine below_set ?_ GE183.out | refine below_set ?_ GE184.out) | exact HB.out))⟩)
               ·skip
                refine box_step ?hg (N := 11) ?hd (cs := #[.int .u8 0, .string (⟨#[]⟩ : ByteArray), .int .i64 0, .slice none 0 0, .int .i64 0]) (t := 61) ?hr ?_; (case hd => rfl); (case hg => rfl); (case hr => first | (go_simp; done) | (go_simp; rfl))
                intro gb184 hg w28 hbox hb
                have n0_ := Aside0.mk (below_step (by repeat (first | (with_reducible first | exact HB.out | apply below_alloc | apply pw_below_drewN | apply below_drew1) | exact HB.out | exact Below.refl _ _)) hb)
                have n1_ := Aside0.mk (hbox)
                have n2_ := Aside0.mk ((by rw [hg]; exact (below_size (by repeat (first | (with_reducible first | exact HB.out | apply below_alloc | apply pw_below_drewN | apply below_drew1) | exact HB.out | exact Below.refl _ _))) : w.heap.size ≤ gb184))
                have n3_ := Aside0.mk ((by rw [hg]; exact (below_size (by repeat (first | (with_reducible first | exact HB.out | apply below_alloc | apply pw_below_drewN | apply below_drew1) | exact HB.out | exact Below.refl _ _))) : w.heap.size ≤ gb184))
                clear HB
                have HB := n0_
                have BK184 := n1_
                have GW184 := n2_
                have GE184 := n3_
                clear n0_ n1_ n2_ n3_
                clear hb hbox hg
                refine hK.out _ _ ⟨((HB.out.cell (World.block_lt_of_cell? w _ hw181_0)).trans hw181_0), ((HB.out.cell (World.block_lt_of_cell? w _ hw181_1)).trans hw181_1), ((HB.out.cell (World.block_lt_of_cell? w _ hw181_2)).trans hw181_2), ((HB.out.cell (World.block_lt_of_cell? w _ hw181_3)).trans hw181_3), ((HB.out.cell (World.block_lt_of_cell? w _ hw181_4)).trans hw181_4), ((HB.out.cell (World.block_lt_of_cell? w _ hw182_0)).trans hw182_0), ((HB.out.cell (World.block_lt_of_cell? w _ hw182_1)).trans hw182_1), ((HB.out.cell (World.block_lt_of_cell? w _ hw182_2)).trans hw182_2), ((HB.out.cell (World.block_lt_of_cell? w _ hw182_3)).trans hw182_3), ((HB.out.cell (World.block_lt_of_cell? w _ hw182_4)).trans hw182_4)⟩ (fun hHeld => ?_)
                clear hK K
                refine norm_ (a' := ?_) ?_ ?_
                rotate_left
                ·show Act.put _ (some 11) _ = _
                 simp only [Act.put, List.setIfInBounds_toArray, List.set_cons_zero, List.set_cons_succ, i64_w, i32_w]
                 rfl
                refine one_ (i := 8) (N := some 10) #[true,true,true,true,true,true,true,true,true,true,false,false] rfl rfl (one_of HT_.out (by kernel_rfl)) (by decide) (fun K hK => ?_)
                refine box_step ?hg (N := 10) ?hd (cs := #[.int .u8 0, .string (⟨#[]⟩ : ByteArray), .int .i64 0, .slice none 0 0, .int .i64 0]) (t := 61) ?hr ?_; (case hd => rfl); (case hg => rfl); (case hr => first | (go_simp; done) | (go_simp; rfl))
                intro gb183 hg w29 hbox hb
                have n0_ := Aside0.mk (blk_below (g := gb184) (o := .cells #[.int .u8 0, .string (⟨#[]⟩ : ByteArray), .int .i64 0, .slice none 0 0, .int .i64 0] 61 (0, 0)) (by (with_reducible repeat (first | refine blk_drewN ?_ _ | refine blk_drew ?_ | refine blk_alloc ?_ _)); exact BK184.out) hb)
                have n1_ := Aside0.mk (below_step (by repeat (first | (with_reducible first | exact HB.out | apply below_alloc | apply pw_below_drewN | apply below_drew1 | refine below_set ?_ GE184.out) | exact HB.out)) hb)
                have n2_ := Aside0.mk (hbox)
                have n3_ := Aside0.mk ((by rw [hg]; exact (below_size (by repeat (first | (with_reducible first | exact HB.out | apply below_alloc | apply pw_below_drewN | apply below_drew1 | refine below_set ?_ GE184.out) | exact HB.out))) : w.heap.size ≤ gb183))
                have n4_ := Aside0.mk ((by rw [hg]; exact (below_size (by repeat (first | (with_reducible first | exact HB.out | apply below_alloc | apply pw_below_drewN | apply below_drew1 | refine below_set ?_ GE184.out) | exact HB.out))) : w.heap.size ≤ gb183))
                have n5_ := Aside0.mk ((by rw [hg]; exact Nat.ne_of_lt (blk_lt (g := gb184) (o := .cells #[.int .u8 0, .string (⟨#[]⟩ : ByteArray), .int .i64 0, .slice none 0 0, .int .i64 0] 61 (0, 0)) (by (with_reducible repeat (first | refine blk_drewN ?_ _ | refine blk_drew ?_ | refine blk_alloc ?_ _)); exact BK184.out)) : gb184 ≠ gb183))
                have n6_ := Aside0.mk ((by rw [hg]; exact Nat.ne_of_gt (blk_lt (g := gb184) (o := .cells #[.int .u8 0, .string (⟨#[]⟩ : ByteArray), .int .i64 0, .slice none 0 0, .int .i64 0] 61 (0, 0)) (by (with_reducible repeat (first | refine blk_drewN ?_ _ | refine blk_drew ?_ | refine blk_alloc ?_ _)); exact BK184.out)) : gb183 ≠ gb184))
                clear BK184
                clear HB
                have BK184 := n0_
                have HB := n1_
                have BK183 := n2_
                have GW183 := n3_
                have GE183 := n4_
                have NB184_183 := n5_
                have NB183_184 := n6_
                clear n0_ n1_ n2_ n3_ n4_ n5_ n6_
                clear hb hbox hg
                refine hK.out _ _ ⟨((HB.out.cell (World.block_lt_of_cell? w _ hw181_0)).trans hw181_0), ((HB.out.cell (World.block_lt_of_cell? w _ hw181_1)).trans hw181_1), ((HB.out.cell (World.block_lt_of_cell? w _ hw181_2)).trans hw181_2), ((HB.out.cell (World.block_lt_of_cell? w _ hw181_3)).trans hw181_3), ((HB.out.cell (World.block_lt_of_cell? w _ hw181_4)).trans hw181_4), ((HB.out.cell (World.block_lt_of_cell? w _ hw182_0)).trans hw182_0), ((HB.out.cell (World.block_lt_of_cell? w _ hw182_1)).trans hw182_1), ((HB.out.cell (World.block_lt_of_cell? w _ hw182_2)).trans hw182_2), ((HB.out.cell (World.block_lt_of_cell? w _ hw182_3)).trans hw182_3), ((HB.out.cell (World.block_lt_of_cell? w _ hw182_4)).trans hw182_4)⟩ (fun hHeld => ?_)
                clear hK K
                refine norm_ (a' := ?_) ?_ ?_
                rotate_left
                ·show Act.put _ (some 10) _ = _
                 simp only [Act.put, List.setIfInBounds_toArray, List.set_cons_zero, List.set_cons_succ, i64_w, i32_w]
                 rfl
                exact norm_ (by simp only [putAll, Act.put, List.setIfInBounds_toArray, List.set_cons_zero, List.set_cons_succ]) (hCont (gb183, gb184) _ ⟨hHeld, (by (with_reducible repeat (first | refine blk_drewN ?_ _ | refine blk_drew ?_ | refine blk_alloc ?_ _)); exact BK183.out), (by (with_reducible repeat (first | refine blk_drewN ?_ _ | refine blk_drew ?_ | refine blk_alloc ?_ _)); exact BK184.out), GW183.out, GE183.out, NB184_183.out, NB183_184.out, GW184.out, GE184.out, (by repeat (first | (with_reducible first | exact HB.out | apply below_alloc | apply pw_below_drewN | apply below_drew1 | refine below_set ?_ GE184.out | refine below_set ?_ GE183.out) | exact HB.out))⟩)
              rintro ⟨gb183, gb184⟩ w30 ⟨hS_, h0_, h1_, h2_, h3_, h4_, h5_, h6_, h7_, h8_⟩
              have n0_ : Aside0 (w30.heap[gb183]? = some (.cells #[.int .u8 0, .string (⟨#[]⟩ : ByteArray), .int .i64 0, .slice none 0 0, .int .i64 0] 61 (0, 0))) := ⟨h0_⟩
              have n1_ : Aside0 (w30.heap[gb184]? = some (.cells #[.int .u8 0, .string (⟨#[]⟩ : ByteArray), .int .i64 0, .slice none 0 0, .int .i64 0] 61 (0, 0))) := ⟨h1_⟩
              have n2_ : Aside0 (w.heap.size ≤ gb183) := ⟨h2_⟩
              have n3_ : Aside0 (w.heap.size ≤ gb183) := ⟨h3_⟩
              have n4_ : Aside0 (gb184 ≠ gb183) := ⟨h4_⟩
              have n5_ : Aside0 (gb183 ≠ gb184) := ⟨h5_⟩
              have n6_ : Aside0 (w.heap.size ≤ gb184) := ⟨h6_⟩
              have n7_ : Aside0 (w.heap.size ≤ gb184) := ⟨h7_⟩
              have n8_ : Aside0 (Below w.heap.size w w30) := ⟨h8_⟩
              clear HB
              clear h0_ h1_ h2_ h3_ h4_ h5_ h6_ h7_ h8_
              have BK183 := n0_
              have BK184 := n1_
              have GW183 := n2_
              have GE183 := n3_
              have NB184_183 := n4_
              have NB183_184 := n5_
              have GW184 := n6_
              have GE184 := n7_
              have HB := n8_
              clear n0_ n1_ n2_ n3_ n4_ n5_ n6_ n7_ n8_
              have hHeld : w30.cell? (ad181.add ((x38_2).toNat * 5)) = some (.int .u8 ((rd_T61 l0 x38_2).f0)) ∧ w30.cell? ⟨(ad181.add ((x38_2).toNat * 5)).block, (ad181.add ((x38_2).toNat * 5)).off + 1, none⟩ = some (.string ((rd_T61 l0 x38_2).f1)) ∧ w30.cell? ⟨(ad181.add ((x38_2).toNat * 5)).block, (ad181.add ((x38_2).toNat * 5)).off + 2, none⟩ = some (.int .i64 ((rd_T61 l0 x38_2).f2)) ∧ w30.cell? ⟨(ad181.add ((x38_2).toNat * 5)).block, (ad181.add ((x38_2).toNat * 5)).off + 3, none⟩ = some (.slice A181_3 ((rd_T61 l0 x38_2).f3).length c181_3) ∧ w30.cell? ⟨(ad181.add ((x38_2).toNat * 5)).block, (ad181.add ((x38_2).toNat * 5)).off + 4, none⟩ = some (.int .i64 ((rd_T61 l0 x38_2).f4)) ∧ w30.cell? (ad182.add ((x38_2).toNat * 5)) = some (.int .u8 ((rd_T61 l2 x38_2).f0)) ∧ w30.cell? ⟨(ad182.add ((x38_2).toNat * 5)).block, (ad182.add ((x38_2).toNat * 5)).off + 1, none⟩ = some (.string ((rd_T61 l2 x38_2).f1)) ∧ w30.cell? ⟨(ad182.add ((x38_2).toNat * 5)).block, (ad182.add ((x38_2).toNat * 5)).off + 2, none⟩ = some (.int .i64 ((rd_T61 l2 x38_2).f2)) ∧ w30.cell? ⟨(ad182.add ((x38_2).toNat * 5)).block, (ad182.add ((x38_2).toNat * 5)).off + 3, none⟩ = some (.slice A182_3 ((rd_T61 l2 x38_2).f3).length c182_3) ∧ w30.cell? ⟨(ad182.add ((x38_2).toNat * 5)).block, (ad182.add ((x38_2).toNat * 5)).off + 4, none⟩ = some (.int .i64 ((rd_T61 l2 x38_2).f4)) := hS_
              refine norm_ (a' := ?_) ?_ ?_
              rotate_left
              ·simp only [putAll, Act.put, List.setIfInBounds_toArray, List.set_cons_zero, List.set_cons_succ]
               rfl
              refine one_ (i := 10) (N := none) #[true,true,true,true,true,true,true,true,true,true,true,false] rfl rfl (one_of HT_.out (by kernel_rfl)) (by decide) (fun K hK => ?_)
              have hs31 : w30.cell? ⟨gb183, 0, none⟩ = some (.int .u8 0) := (blk_cell BK183.out 0).trans rfl
              have hfs31 := blk_frozen BK183.out 0
              have hns31_1 := NB184_183.out
              have hms31_1 := NB183_184.out
              have hs32 : w30.cell? ⟨gb183, 1, none⟩ = some (.string (⟨#[]⟩ : ByteArray)) := (blk_cell BK183.out 1).trans rfl
              have hfs32 := blk_frozen BK183.out 1
              have hns32_1 := NB184_183.out
              have hms32_1 := NB183_184.out
              have hs33 : w30.cell? ⟨gb183, 2, none⟩ = some (.int .i64 0) := (blk_cell BK183.out 2).trans rfl
              have hfs33 := blk_frozen BK183.out 2
              have hns33_1 := NB184_183.out
              have hms33_1 := NB183_184.out
              have hs34 : w30.cell? ⟨gb183, 3, none⟩ = some (.slice none 0 0) := (blk_cell BK183.out 3).trans rfl
              have hfs34 := blk_frozen BK183.out 3
              have hns34_1 := NB184_183.out
              have hms34_1 := NB183_184.out
              have hs35 : w30.cell? ⟨gb183, 4, none⟩ = some (.int .i64 0) := (blk_cell BK183.out 4).trans rfl
              have hfs35 := blk_frozen BK183.out 4
              have hns35_1 := NB184_183.out
              have hms35_1 := NB183_184.out
              refine skip_ (w1 := ?_) (by rfl) rfl ?_ ?_
              rotate_left
              ·go_simp
               rfl
              have q10_3 := Nat.ne_of_lt (Nat.lt_of_lt_of_le (World.block_lt_of_cell? _ _ hw181_0) GW183.out)
              have q11_3 := Nat.ne_of_lt (Nat.lt_of_lt_of_le (World.block_lt_of_cell? _ _ hw181_1) GW183.out)
              have q12_3 := Nat.ne_of_lt (Nat.lt_of_lt_of_le (World.block_lt_of_cell? _ _ hw181_2) GW183.out)
              have q13_3 := Nat.ne_of_lt (Nat.lt_of_lt_of_le (World.block_lt_of_cell? _ _ hw181_3) GW183.out)
              have q14_3 := Nat.ne_of_lt (Nat.lt_of_lt_of_le (World.block_lt_of_cell? _ _ hw181_4) GW183.out)
              have q20_3 := Nat.ne_of_lt (Nat.lt_of_lt_of_le (World.block_lt_of_cell? _ _ hw182_0) GW183.out)
              have q21_3 := Nat.ne_of_lt (Nat.lt_of_lt_of_le (World.block_lt_of_cell? _ _ hw182_1) GW183.out)
              have q22_3 := Nat.ne_of_lt (Nat.lt_of_lt_of_le (World.block_lt_of_cell? _ _ hw182_2) GW183.out)
              have q23_3 := Nat.ne_of_lt (Nat.lt_of_lt_of_le (World.block_lt_of_cell? _ _ hw182_3) GW183.out)
              have q24_3 := Nat.ne_of_lt (Nat.lt_of_lt_of_le (World.block_lt_of_cell? _ _ hw182_4) GW183.out)
              refine hK.out _ _ ⟨((cell_far (p := ⟨gb183, _, none⟩) q10_3 _).trans (((cell_far (p := ⟨gb183, _, none⟩) q10_3 _).trans (((cell_far (p := ⟨gb183, _, none⟩) q10_3 _).trans (((cell_far (p := ⟨gb183, _, none⟩) q10_3 _).trans (((cell_far (p := ⟨gb183, _, none⟩) q10_3 _).trans (hHeld.1)))))))))), ((cell_far (p := ⟨gb183, _, none⟩) q11_3 _).trans (((cell_far (p := ⟨gb183, _, none⟩) q11_3 _).trans (((cell_far (p := ⟨gb183, _, none⟩) q11_3 _).trans (((cell_far (p := ⟨gb183, _, none⟩) q11_3 _).trans (((cell_far (p := ⟨gb183, _, none⟩) q11_3 _).trans (hHeld.2.1)))))))))), ((cell_far (p := ⟨gb183, _, none⟩) q12_3 _).trans (((cell_far (p := ⟨gb183, _, none⟩) q12_3 _).trans (((cell_far (p := ⟨gb183, _, none⟩) q12_3 _).trans (((cell_far (p := ⟨gb183, _, none⟩) q12_3 _).trans (((cell_far (p := ⟨gb183, _, none⟩) q12_3 _).trans (hHeld.2.2.1)))))))))), ((cell_far (p := ⟨gb183, _, none⟩) q13_3 _).trans (((cell_far (p := ⟨gb183, _, none⟩) q13_3 _).trans (((cell_far (p := ⟨gb183, _, none⟩) q13_3 _).trans (((cell_far (p := ⟨gb183, _, none⟩) q13_3 _).trans (((cell_far (p := ⟨gb183, _, none⟩) q13_3 _).trans (hHeld.2.2.2.1)))))))))), ((cell_far (p := ⟨gb183, _, none⟩) q14_3 _).trans (((cell_far (p := ⟨gb183, _, none⟩) q14_3 _).trans (((cell_far (p := ⟨gb183, _, none⟩) q14_3 _).trans (((cell_far (p := ⟨gb183, _, none⟩) q14_3 _).trans (((cell_far (p := ⟨gb183, _, none⟩) q14_3 _).trans (hHeld.2.2.2.2.1)))))))))), ((cell_far (p := ⟨gb183, _, none⟩) q20_3 _).trans (((cell_far (p := ⟨gb183, _, none⟩) q20_3 _).trans (((cell_far (p := ⟨gb183, _, none⟩) q20_3 _).trans (((cell_far (p := ⟨gb183, _, none⟩) q20_3 _).trans (((cell_far (p := ⟨gb183, _, none⟩) q20_3 _).trans (hHeld.2.2.2.2.2.1)))))))))), ((cell_far (p := ⟨gb183, _, none⟩) q21_3 _).trans (((cell_far (p := ⟨gb183, _, none⟩) q21_3 _).trans (((cell_far (p := ⟨gb183, _, none⟩) q21_3 _).trans (((cell_far (p := ⟨gb183, _, none⟩) q21_3 _).trans (((cell_far (p := ⟨gb183, _, none⟩) q21_3 _).trans (hHeld.2.2.2.2.2.2.1)))))))))), ((cell_far (p := ⟨gb183, _, none⟩) q22_3 _).trans (((cell_far (p := ⟨gb183, _, none⟩) q22_3 _).trans (((cell_far (p := ⟨gb183, _, none⟩) q22_3 _).trans (((cell_far (p := ⟨gb183, _, none⟩) q22_3 _).trans (((cell_far (p := ⟨gb183, _, none⟩) q22_3 _).trans (hHeld.2.2.2.2.2.2.2.1)))))))))), ((cell_far (p := ⟨gb183, _, none⟩) q23_3 _).trans (((cell_far (p := ⟨gb183, _, none⟩) q23_3 _).trans (((cell_far (p := ⟨gb183, _, none⟩) q23_3 _).trans (((cell_far (p := ⟨gb183, _, none⟩) q23_3 _).trans (((cell_far (p := ⟨gb183, _, none⟩) q23_3 _).trans (hHeld.2.2.2.2.2.2.2.2.1)))))))))), ((cell_far (p := ⟨gb183, _, none⟩) q24_3 _).trans (((cell_far (p := ⟨gb183, _, none⟩) q24_3 _).trans (((cell_far (p := ⟨gb183, _, none⟩) q24_3 _).trans (((cell_far (p := ⟨gb183, _, none⟩) q24_3 _).trans (((cell_far (p := ⟨gb183, _, none⟩) q24_3 _).trans (hHeld.2.2.2.2.2.2.2.2.2))))))))))⟩ (fun hHeld => ?_)
              clear hK K
              refine one_ (i := 11) (N := none) #[true,true,true,true,true,true,true,true,true,true,true,true] rfl rfl (one_of HT_.out (by kernel_rfl)) (by decide) (fun K hK => ?_)
              have hs36 : w30.cell? ⟨gb184, 0, none⟩ = some (.int .u8 0) := (blk_cell BK184.out 0).trans rfl
              have hfs36 := blk_frozen BK184.out 0
              have hns36_0 := NB183_184.out
              have hms36_0 := NB184_183.out
              have hs37 : w30.cell? ⟨gb184, 1, none⟩ = some (.string (⟨#[]⟩ : ByteArray)) := (blk_cell BK184.out 1).trans rfl
              have hfs37 := blk_frozen BK184.out 1
              have hns37_0 := NB183_184.out
              have hms37_0 := NB184_183.out
              have hs38 : w30.cell? ⟨gb184, 2, none⟩ = some (.int .i64 0) := (blk_cell BK184.out 2).trans rfl
              have hfs38 := blk_frozen BK184.out 2
              have hns38_0 := NB183_184.out
              have hms38_0 := NB184_183.out
              have hs39 : w30.cell? ⟨gb184, 3, none⟩ = some (.slice none 0 0) := (blk_cell BK184.out 3).trans rfl
              have hfs39 := blk_frozen BK184.out 3
              have hns39_0 := NB183_184.out
              have hms39_0 := NB184_183.out
              have hs40 : w30.cell? ⟨gb184, 4, none⟩ = some (.int .i64 0) := (blk_cell BK184.out 4).trans rfl
              have hfs40 := blk_frozen BK184.out 4
              have hns40_0 := NB183_184.out
              have hms40_0 := NB184_183.out
              refine skip_ (w1 := ?_) (by rfl) rfl ?_ ?_
              rotate_left
              ·go_simp
               rfl
              have q10_4 := Nat.ne_of_lt (Nat.lt_of_lt_of_le (World.block_lt_of_cell? _ _ hw181_0) GW184.out)
              have q11_4 := Nat.ne_of_lt (Nat.lt_of_lt_of_le (World.block_lt_of_cell? _ _ hw181_1) GW184.out)
              have q12_4 := Nat.ne_of_lt (Nat.lt_of_lt_of_le (World.block_lt_of_cell? _ _ hw181_2) GW184.out)
              have q13_4 := Nat.ne_of_lt (Nat.lt_of_lt_of_le (World.block_lt_of_cell? _ _ hw181_3) GW184.out)
              have q14_4 := Nat.ne_of_lt (Nat.lt_of_lt_of_le (World.block_lt_of_cell? _ _ hw181_4) GW184.out)
              have q20_4 := Nat.ne_of_lt (Nat.lt_of_lt_of_le (World.block_lt_of_cell? _ _ hw182_0) GW184.out)
              have q21_4 := Nat.ne_of_lt (Nat.lt_of_lt_of_le (World.block_lt_of_cell? _ _ hw182_1) GW184.out)
              have q22_4 := Nat.ne_of_lt (Nat.lt_of_lt_of_le (World.block_lt_of_cell? _ _ hw182_2) GW184.out)
              have q23_4 := Nat.ne_of_lt (Nat.lt_of_lt_of_le (World.block_lt_of_cell? _ _ hw182_3) GW184.out)
              have q24_4 := Nat.ne_of_lt (Nat.lt_of_lt_of_le (World.block_lt_of_cell? _ _ hw182_4) GW184.out)
              refine hK.out _ _ ⟨((cell_far (p := ⟨gb184, _, none⟩) q10_4 _).trans (((cell_far (p := ⟨gb184, _, none⟩) q10_4 _).trans (((cell_far (p := ⟨gb184, _, none⟩) q10_4 _).trans (((cell_far (p := ⟨gb184, _, none⟩) q10_4 _).trans (((cell_far (p := ⟨gb184, _, none⟩) q10_4 _).trans (hHeld.1)))))))))), ((cell_far (p := ⟨gb184, _, none⟩) q11_4 _).trans (((cell_far (p := ⟨gb184, _, none⟩) q11_4 _).trans (((cell_far (p := ⟨gb184, _, none⟩) q11_4 _).trans (((cell_far (p := ⟨gb184, _, none⟩) q11_4 _).trans (((cell_far (p := ⟨gb184, _, none⟩) q11_4 _).trans (hHeld.2.1)))))))))), ((cell_far (p := ⟨gb184, _, none⟩) q12_4 _).trans (((cell_far (p := ⟨gb184, _, none⟩) q12_4 _).trans (((cell_far (p := ⟨gb184, _, none⟩) q12_4 _).trans (((cell_far (p := ⟨gb184, _, none⟩) q12_4 _).trans (((cell_far (p := ⟨gb184, _, none⟩) q12_4 _).trans (hHeld.2.2.1)))))))))), ((cell_far (p := ⟨gb184, _, none⟩) q13_4 _).trans (((cell_far (p := ⟨gb184, _, none⟩) q13_4 _).trans (((cell_far (p := ⟨gb184, _, none⟩) q13_4 _).trans (((cell_far (p := ⟨gb184, _, none⟩) q13_4 _).trans (((cell_far (p := ⟨gb184, _, none⟩) q13_4 _).trans (hHeld.2.2.2.1)))))))))), ((cell_far (p := ⟨gb184, _, none⟩) q14_4 _).trans (((cell_far (p := ⟨gb184, _, none⟩) q14_4 _).trans (((cell_far (p := ⟨gb184, _, none⟩) q14_4 _).trans (((cell_far (p := ⟨gb184, _, none⟩) q14_4 _).trans (((cell_far (p := ⟨gb184, _, none⟩) q14_4 _).trans (hHeld.2.2.2.2.1)))))))))), ((cell_far (p := ⟨gb184, _, none⟩) q20_4 _).trans (((cell_far (p := ⟨gb184, _, none⟩) q20_4 _).trans (((cell_far (p := ⟨gb184, _, none⟩) q20_4 _).trans (((cell_far (p := ⟨gb184, _, none⟩) q20_4 _).trans (((cell_far (p := ⟨gb184, _, none⟩) q20_4 _).trans (hHeld.2.2.2.2.2.1)))))))))), ((cell_far (p := ⟨gb184, _, none⟩) q21_4 _).trans (((cell_far (p := ⟨gb184, _, none⟩) q21_4 _).trans (((cell_far (p := ⟨gb184, _, none⟩) q21_4 _).trans (((cell_far (p := ⟨gb184, _, none⟩) q21_4 _).trans (((cell_far (p := ⟨gb184, _, none⟩) q21_4 _).trans (hHeld.2.2.2.2.2.2.1)))))))))), ((cell_far (p := ⟨gb184, _, none⟩) q22_4 _).trans (((cell_far (p := ⟨gb184, _, none⟩) q22_4 _).trans (((cell_far (p := ⟨gb184, _, none⟩) q22_4 _).trans (((cell_far (p := ⟨gb184, _, none⟩) q22_4 _).trans (((cell_far (p := ⟨gb184, _, none⟩) q22_4 _).trans (hHeld.2.2.2.2.2.2.2.1)))))))))), ((cell_far (p := ⟨gb184, _, none⟩) q23_4 _).trans (((cell_far (p := ⟨gb184, _, none⟩) q23_4 _).trans (((cell_far (p := ⟨gb184, _, none⟩) q23_4 _).trans (((cell_far (p := ⟨gb184, _, none⟩) q23_4 _).trans (((cell_far (p := ⟨gb184, _, none⟩) q23_4 _).trans (hHeld.2.2.2.2.2.2.2.2.1)))))))))), ((cell_far (p := ⟨gb184, _, none⟩) q24_4 _).trans (((cell_far (p := ⟨gb184, _, none⟩) q24_4 _).trans (((cell_far (p := ⟨gb184, _, none⟩) q24_4 _).trans (((cell_far (p := ⟨gb184, _, none⟩) q24_4 _).trans (((cell_far (p := ⟨gb184, _, none⟩) q24_4 _).trans (hHeld.2.2.2.2.2.2.2.2.2))))))))))⟩ (fun hHeld => ?_)
              clear hK K
              refine done_ (done_of HT_.out (by kernel_rfl)) ?_
              have hnb41 := NB183_184.out
              have hnc41 := NB184_183.out
              have hcz42_0 : w30.cell? ⟨gb183, 0, none⟩ = some (.int .u8 0) := (blk_cell BK183.out 0).trans rfl
              have hcz42_1 : w30.cell? ⟨gb183, 1, none⟩ = some (.string (⟨#[]⟩ : ByteArray)) := (blk_cell BK183.out 1).trans rfl
              have hcz42_2 : w30.cell? ⟨gb183, 2, none⟩ = some (.int .i64 0) := (blk_cell BK183.out 2).trans rfl
              have hcz42_3 : w30.cell? ⟨gb183, 3, none⟩ = some (.slice none 0 0) := (blk_cell BK183.out 3).trans rfl
              have hcz42_4 : w30.cell? ⟨gb183, 4, none⟩ = some (.int .i64 0) := (blk_cell BK183.out 4).trans rfl
              have hfz42_0 := blk_frozen BK183.out 0
              have hfz42_1 := blk_frozen BK183.out 1
              have hfz42_2 := blk_frozen BK183.out 2
              have hfz42_3 := blk_frozen BK183.out 3
              have hfz42_4 := blk_frozen BK183.out 4
              have hcz43_0 : w30.cell? ⟨gb184, 0, none⟩ = some (.int .u8 0) := (blk_cell BK184.out 0).trans rfl
              have hcz43_1 : w30.cell? ⟨gb184, 1, none⟩ = some (.string (⟨#[]⟩ : ByteArray)) := (blk_cell BK184.out 1).trans rfl
              have hcz43_2 : w30.cell? ⟨gb184, 2, none⟩ = some (.int .i64 0) := (blk_cell BK184.out 2).trans rfl
              have hcz43_3 : w30.cell? ⟨gb184, 3, none⟩ = some (.slice none 0 0) := (blk_cell BK184.out 3).trans rfl
              have hcz43_4 : w30.cell? ⟨gb184, 4, none⟩ = some (.int .i64 0) := (blk_cell BK184.out 4).trans rfl
              have hfz43_0 := blk_frozen BK184.out 0
              have hfz43_1 := blk_frozen BK184.out 1
              have hfz43_2 := blk_frozen BK184.out 2
              have hfz43_3 := blk_frozen BK184.out 3
              have hfz43_4 := blk_frozen BK184.out 4
              try go_wp2
              go_roundg k2
              case measure => have := HJ4.out; have := HK2.out; omega
              case rel => exact ⟨(wrap64 (x38_2 + 1)), (by first | rfl | (simp; done) | (simp [*]; done)), H', ⟨by have := HJ4.out; have := HK2.out; omega⟩, ⟨by repeat (first | (with_reducible first | exact HB.out | apply below_alloc | apply pw_below_drewN | apply below_drew1 | refine below_set ?_ GE183.out | refine below_set ?_ GE184.out) | exact HB.out)⟩⟩
             ·rw [if_neg c26] at H
              have c26b0 : ((((rd_T61 l0 x38_2).f3).length : Int) == (((rd_T61 l2 x38_2).f3).length : Int)) = false := beq_eq_false_iff_ne.mpr c26
              have c26b1 : ((((rd_T61 l0 x38_2).f3).length : Int) != (((rd_T61 l2 x38_2).f3).length : Int)) = true := bne_iff_ne.mpr c26
              have c26b2 : (((rd_T61 l0 x38_2).f3).length == ((rd_T61 l2 x38_2).f3).length) = false := by first | simpa using c26 | (simp at c26 ⊢; omega)
              obtain rfl := Option.some.inj H
              try go_wp2
              have n0_ := Aside0.mk (below_drew1 HB.out)
              clear HB
              have HB := n0_
              clear n0_
              have p181 : 0 ≤ (x38_2 : Int) := of_decide_eq_true (by first | (with_reducible assumption) | assumption)
              have q181 : x38_2 < (l0.length : Int) := of_decide_eq_true (by first | (with_reducible assumption) | assumption)
              obtain ⟨ad181, A181_3, c181_3, e181, hx181_0, hx181_1, hx181_2, hx181_3, hx181_4, hl181_3, hi181_3⟩ := at_T61 HR0.out x38_2 p181 q181
              have hw181_4 := hx181_4
              have hw181_3 := hx181_3
              have hw181_2 := hx181_2
              have hw181_1 := hx181_1
              have hw181_0 := hx181_0
              cases e181
              replace hx181_0 := (HB.out.cell (World.block_lt_of_cell? w _ hx181_0)).trans hx181_0
              replace hx181_1 := (HB.out.cell (World.block_lt_of_cell? w _ hx181_1)).trans hx181_1
              replace hx181_2 := (HB.out.cell (World.block_lt_of_cell? w _ hx181_2)).trans hx181_2
              replace hx181_3 := (HB.out.cell (World.block_lt_of_cell? w _ hx181_3)).trans hx181_3
              replace hx181_4 := (HB.out.cell (World.block_lt_of_cell? w _ hx181_4)).trans hx181_4
              have HR181_3 := Aside0.mk hi181_3
              have HC181_3 := Aside0.mk hl181_3
              clear hi181_3 hl181_3
              replace p181 := eq_true p181
              replace q181 := eq_true q181
              have p182 : 0 ≤ (x38_2 : Int) := of_decide_eq_true (by first | (with_reducible assumption) | assumption)
              have q182 : x38_2 < (l2.length : Int) := of_decide_eq_true (by first | (with_reducible assumption) | assumption)
              obtain ⟨ad182, A182_3, c182_3, e182, hx182_0, hx182_1, hx182_2, hx182_3, hx182_4, hl182_3, hi182_3⟩ := at_T61 HR2.out x38_2 p182 q182
              have hw182_4 := hx182_4
              have hw182_3 := hx182_3
              have hw182_2 := hx182_2
              have hw182_1 := hx182_1
              have hw182_0 := hx182_0
              cases e182
              replace hx182_0 := (HB.out.cell (World.block_lt_of_cell? w _ hx182_0)).trans hx182_0
              replace hx182_1 := (HB.out.cell (World.block_lt_of_cell? w _ hx182_1)).trans hx182_1
              replace hx182_2 := (HB.out.cell (World.block_lt_of_cell? w _ hx182_2)).trans hx182_2
              replace hx182_3 := (HB.out.cell (World.block_lt_of_cell? w _ hx182_3)).trans hx182_3
              replace hx182_4 := (HB.out.cell (World.block_lt_of_cell? w _ hx182_4)).trans hx182_4
              have HR182_3 := Aside0.mk hi182_3
              have HC182_3 := Aside0.mk hl182_3
              clear hi182_3 hl182_3
              replace p182 := eq_true p182
              replace q182 := eq_true q182
              refine start_ (n := 12) (S := fun w' => w'.cell? (ad181.add ((x38_2).toNat * 5)) = some (.int .u8 ((rd_T61 l0 x38_2).f0)) ∧ w'.cell? ⟨(ad181.add ((x38_2).toNat * 5)).block, (ad181.add ((x38_2).toNat * 5)).off + 1, none⟩ = some (.string ((rd_T61 l0 x38_2).f1)) ∧ w'.cell? ⟨(ad181.add ((x38_2).toNat * 5)).block, (ad181.add ((x38_2).toNat * 5)).off + 2, none⟩ = some (.int .i64 ((rd_T61 l0 x38_2).f2)) ∧ w'.cell? ⟨(ad181.add ((x38_2).toNat * 5)).block, (ad181.add ((x38_2).toNat * 5)).off + 3, none⟩ = some (.slice A181_3 ((rd_T61 l0 x38_2).f3).length c181_3) ∧ w'.cell? ⟨(ad181.add ((x38_2).toNat * 5)).block, (ad181.add ((x38_2).toNat * 5)).off + 4, none⟩ = some (.int .i64 ((rd_T61 l0 x38_2).f4)) ∧ w'.cell? (ad182.add ((x38_2).toNat * 5)) = some (.int .u8 ((rd_T61 l2 x38_2).f0)) ∧ w'.cell? ⟨(ad182.add ((x38_2).toNat * 5)).block, (ad182.add ((x38_2).toNat * 5)).off + 1, none⟩ = some (.string ((rd_T61 l2 x38_2).f1)) ∧ w'.cell? ⟨(ad182.add ((x38_2).toNat * 5)).block, (ad182.add ((x38_2).toNat * 5)).off + 2, none⟩ = some (.int .i64 ((rd_T61 l2 x38_2).f2)) ∧ w'.cell? ⟨(ad182.add ((x38_2).toNat * 5)).block, (ad182.add ((x38_2).toNat * 5)).off + 3, none⟩ = some (.slice A182_3 ((rd_T61 l2 x38_2).f3).length c182_3) ∧ w'.cell? ⟨(ad182.add ((x38_2).toNat * 5)).block, (ad182.add ((x38_2).toNat * 5)).off + 4, none⟩ = some (.int .i64 ((rd_T61 l2 x38_2).f4))) (ds := []) #[false,false,false,false,false,false,false,false,false,false,false,false] (by kernel_rfl) rfl rfl ⟨((HB.out.cell (World.block_lt_of_cell? w _ hw181_0)).trans hw181_0), ((HB.out.cell (World.block_lt_of_cell? w _ hw181_1)).trans hw181_1), ((HB.out.cell (World.block_lt_of_cell? w _ hw181_2)).trans hw181_2), ((HB.out.cell (World.block_lt_of_cell? w _ hw181_3)).trans hw181_3), ((HB.out.cell (World.block_lt_of_cell? w _ hw181_4)).trans hw181_4), ((HB.out.cell (World.block_lt_of_cell? w _ hw182_0)).trans hw182_0), ((HB.out.cell (World.block_lt_of_cell? w _ hw182_1)).trans hw182_1), ((HB.out.cell (World.block_lt_of_cell? w _ hw182_2)).trans hw182_2), ((HB.out.cell (World.block_lt_of_cell? w _ hw182_3)).trans hw182_3), ((HB.out.cell (World.block_lt_of_cell? w _ hw182_4)).trans hw182_4)⟩ (fun hHeld => ?_); refine with_tabW show_Same.tab6 show_Same.bits6 (fun HT_ HW_ => ?_)
              generalize wr.drew = w44 at HB HR181_3 HR182_3 hx181_0 hx181_1 hx181_2 hx181_3 hx181_4 hx182_0 hx182_1 hx182_2 hx182_3 hx182_4 hHeld ⊢
              refine pure_ (i := 0) (N := some 41) (v := ?_) (a' := ?_) #[true,false,false,false,false,false,false,false,false,false,false,false] rfl rfl (any_of HT_.out (by kernel_rfl)) (fun _ _ _ h => h) (Or.inl ⟨by rfl, ?_⟩) ?_ ?_
              rotate_left
              ·intro w'
               go_simp
               with_reducible rfl
              rotate_left
              ·simp only [Act.put, List.setIfInBounds_toArray, List.set_cons_zero, List.set_cons_succ, i64_w, i32_w]
               rfl
              refine pure_ (i := 1) (N := some 42) (v := ?_) (a' := ?_) #[true,true,false,false,false,false,false,false,false,false,false,false] rfl rfl (any_of HT_.out (by kernel_rfl)) (fun _ _ _ h => h) (Or.inl ⟨by rfl, ?_⟩) ?_ ?_
              rotate_left
              ·intro w'
               go_simp
               with_reducible rfl
              rotate_left
              ·simp only [Act.put, List.setIfInBounds_toArray, List.set_cons_zero, List.set_cons_succ, i64_w, i32_w]
               rfl
              refine pure_ (i := 2) (N := some 43) (v := ?_) (a' := ?_) #[true,true,true,false,false,false,false,false,false,false,false,false] rfl rfl (any_of HT_.out (by kernel_rfl)) (fun _ _ _ h => h) (Or.inl ⟨by rfl, ?_⟩) ?_ ?_
              rotate_left
              ·intro w'
               go_simp
               with_reducible rfl
              rotate_left
              ·simp only [Act.put, List.setIfInBounds_toArray, List.set_cons_zero, List.set_cons_succ, i64_w, i32_w]
               rfl
              refine pure_ (i := 4) (N := some 45) (v := ?_) (a' := ?_) #[true,true,true,false,true,false,false,false,false,false,false,false] rfl rfl (any_of HT_.out (by kernel_rfl)) (fun _ _ _ h => h) (Or.inl ⟨by rfl, ?_⟩) ?_ ?_
              rotate_left
              ·intro w'
               go_simp
               with_reducible rfl
              rotate_left
              ·simp only [Act.put, List.setIfInBounds_toArray, List.set_cons_zero, List.set_cons_succ, i64_w, i32_w]
               rfl
              refine pure_ (i := 5) (N := some 46) (v := ?_) (a' := ?_) #[true,true,true,false,true,true,false,false,false,false,false,false] rfl rfl (any_of HT_.out (by kernel_rfl)) (fun _ _ _ h => h) (Or.inl ⟨by rfl, ?_⟩) ?_ ?_
              rotate_left
              ·intro w'
               go_simp
               with_reducible rfl
              rotate_left
              ·simp only [Act.put, List.setIfInBounds_toArray, List.set_cons_zero, List.set_cons_succ, i64_w, i32_w]
               rfl
              refine pure_ (i := 6) (N := some 47) (v := ?_) (a' := ?_) #[true,true,true,false,true,true,true,false,false,false,false,false] rfl rfl (any_of HT_.out (by kernel_rfl)) (fun _ _ _ h => h) (Or.inl ⟨by rfl, ?_⟩) ?_ ?_
              rotate_left
              ·intro w'
               go_simp
               with_reducible rfl
              rotate_left
              ·simp only [Act.put, List.setIfInBounds_toArray, List.set_cons_zero, List.set_cons_succ, i64_w, i32_w]
               rfl
              refine take_ (i := 3) (N := some 44) (v := ?_) (a' := ?_) #[true,true,true,true,true,true,true,false,false,false,false,false] rfl rfl (take_ofW HT_.out HW_.out (by kernel_rfl)) (fun _ _ _ h => h) (Or.inl ⟨by rfl, ?_⟩) hHeld ?_ ?_
              rotate_left
              ·rintro w' ⟨s0, s1, s2, s3, s4, s5, s6, s7, s8, s9⟩
               go_simp
               with_reducible rfl
              rotate_left
              ·simp only [Act.put, List.setIfInBounds_toArray, List.set_cons_zero, List.set_cons_succ, i64_w, i32_w]
               rfl
              refine take_ (i := 7) (N := some 48) (v := ?_) (a' := ?_) #[true,true,true,true,true,true,true,true,false,false,false,false] rfl rfl (take_ofW HT_.out HW_.out (by kernel_rfl)) (fun _ _ _ h => h) (Or.inl ⟨by rfl, ?_⟩) hHeld ?_ ?_
              rotate_left
              ·rintro w' ⟨s0, s1, s2, s3, s4, s5, s6, s7, s8, s9⟩
               go_simp
               with_reducible rfl
              rotate_left
              ·simp only [Act.put, List.setIfInBounds_toArray, List.set_cons_zero, List.set_cons_succ, i64_w, i32_w]
               rfl
              refine join_ (σ := Nat × Nat) 2 #[true,true,true,true,true,true,true,true,true,true,false,false] (fun s_ => [(10, .pointer (some ⟨s_.1, 0, none⟩)), (11, .pointer (some ⟨s_.2, 0, none⟩))]) (fun s_ w' => (w'.cell? (ad181.add ((x38_2).toNat * 5)) = some (.int .u8 ((rd_T61 l0 x38_2).f0)) ∧ w'.cell? ⟨(ad181.add ((x38_2).toNat * 5)).block, (ad181.add ((x38_2).toNat * 5)).off + 1, none⟩ = some (.string ((rd_T61 l0 x38_2).f1)) ∧ w'.cell? ⟨(ad181.add ((x38_2).toNat * 5)).block, (ad181.add ((x38_2).toNat * 5)).off + 2, none⟩ = some (.int .i64 ((rd_T61 l0 x38_2).f2)) ∧ w'.cell? ⟨(ad181.add ((x38_2).toNat * 5)).block, (ad181.add ((x38_2).toNat * 5)).off + 3, none⟩ = some (.slice A181_3 ((rd_T61 l0 x38_2).f3).length c181_3) ∧ w'.cell? ⟨(ad181.add ((x38_2).toNat * 5)).block, (ad181.add ((x38_2).toNat * 5)).off + 4, none⟩ = some (.int .i64 ((rd_T61 l0 x38_2).f4)) ∧ w'.cell? (ad182.add ((x38_2).toNat * 5)) = some (.int .u8 ((rd_T61 l2 x38_2).f0)) ∧ w'.cell? ⟨(ad182.add ((x38_2).toNat * 5)).block, (ad182.add ((x38_2).toNat * 5)).off + 1, none⟩ = some (.string ((rd_T61 l2 x38_2).f1)) ∧ w'.cell? ⟨(ad182.add ((x38_2).toNat * 5)).block, (ad182.add ((x38_2).toNat * 5)).off + 2, none⟩ = some (.int .i64 ((rd_T61 l2 x38_2).f2)) ∧ w'.cell? ⟨(ad182.add ((x38_2).toNat * 5)).block, (ad182.add ((x38_2).toNat * 5)).off + 3, none⟩ = some (.slice A182_3 ((rd_T61 l2 x38_2).f3).length c182_3) ∧ w'.cell? ⟨(ad182.add ((x38_2).toNat * 5)).block, (ad182.add ((x38_2).toNat * 5)).off + 4, none⟩ = some (.int .i64 ((rd_T61 l2 x38_2).f4))) ∧ (w'.heap[s_.1]? = some (.cells #[.int .u8 0, .string (⟨#[]⟩ : ByteArray), .int .i64 0, .slice none 0 0, .int .i64 0] 61 (0, 0))) ∧ (w'.heap[s_.2]? = some (.cells #[.int .u8 0, .string (⟨#[]⟩ : ByteArray), .int .i64 0, .slice none 0 0, .int .i64 0] 61 (0, 0))) ∧ (w.heap.size ≤ s_.1) ∧ (w.heap.size ≤ s_.1) ∧ (s_.2 ≠ s_.1) ∧ (s_.1 ≠ s_.2) ∧ (w.heap.size ≤ s_.2) ∧ (w.heap.size ≤ s_.2) ∧ (Below w.heap.size w w')) ?_ ?_
              rotate_left
              ·intro hCont
               refine two_ (i := 8) (j := 9) (Ni := some 10) (Nj := some 11) #[true,true,true,true,true,true,true,true,true,false,false,false] #[true,true,true,true,true,true,true,true,false,true,false,false] rfl rfl rfl rfl (two_of HT_.out (by kernel_rfl)) (by decide) (by decide) (fun K hK => ?_) (fun K hK => ?_)
               ·skip
                refine box_step ?hg (N := 10) ?hd (cs := #[.int .u8 0, .string (⟨#[]⟩ : ByteArray), .int .i64 0, .slice none 0 0, .int .i64 0]) (t := 61) ?hr ?_; (case hd => rfl); (case hg => rfl); (case hr => first | (go_simp; done) | (go_simp; rfl))
                intro gb183 hg w45 hbox hb
                have n0_ := Aside0.mk (below_step (by repeat (first | (with_reducible first | exact HB.out | apply below_alloc | apply pw_below_drewN | apply below_drew1) | exact HB.out | exact Below.refl _ _)) hb)
                have n1_ := Aside0.mk (hbox)
                have n2_ := Aside0.mk ((by rw [hg]; exact (below_size (by repeat (first | (with_reducible first | exact HB.out | apply below_alloc | apply pw_below_drewN | apply below_drew1) | exact HB.out | exact Below.refl _ _))) : w.heap.size ≤ gb183))
                have n3_ := Aside0.mk ((by rw [hg]; exact (below_size (by repeat (first | (with_reducible first | exact HB.out | apply below_alloc | apply pw_below_drewN | apply below_drew1) | exact HB.out | exact Below.refl _ _))) : w.heap.size ≤ gb183))
                clear HB
                have HB := n0_
                have BK183 := n1_
                have GW183 := n2_
                have GE183 := n3_
                clear n0_ n1_ n2_ n3_
                clear hb hbox hg
                refine hK.out _ _ ⟨((HB.out.cell (World.block_lt_of_cell? w _ hw181_0)).trans hw181_0), ((HB.out.cell (World.block_lt_of_cell? w _ hw181_1)).trans hw181_1), ((HB.out.cell (World.block_lt_of_cell? w _ hw181_2)).trans hw181_2), ((HB.out.cell (World.block_lt_of_cell? w _ hw181_3)).trans hw181_3), ((HB.out.cell (World.block_lt_of_cell? w _ hw181_4)).trans hw181_4), ((HB.out.cell (World.block_lt_of_cell? w _ hw182_0)).trans hw182_0), ((HB.out.cell (World.block_lt_of_cell? w _ hw182_1)).trans hw182_1), ((HB.out.cell (World.block_lt_of_cell? w _ hw182_2)).trans hw182_2), ((HB.out.cell (World.block_lt_of_cell? w _ hw182_3)).trans hw182_3), ((HB.out.cell (World.block_lt_of_cell? w _ hw182_4)).trans hw182_4)⟩ (fun hHeld => ?_)
                clear hK K
                refine norm_ (a' := ?_) ?_ ?_
                rotate_left
                ·show Act.put _ (some 10) _ = _
                 simp only [Act.put, List.setIfInBounds_toArray, List.set_cons_zero, List.set_cons_succ, i64_w, i32_w]
                 rfl
                refine one_ (i := 9) (N := some 11) #[true,true,true,true,true,true,true,true,true,true,false,false] rfl rfl (one_of HT_.out (by kernel_rfl)) (by decide) (fun K hK => ?_)
                refine box_step ?hg (N := 11) ?hd (cs := #[.int .u8 0, .string (⟨#[]⟩ : ByteArray), .int .i64 0, .slice none 0 0, .int .i64 0]) (t := 61) ?hr ?_; (case hd => rfl); (case hg => rfl); (case hr => first | (go_simp; done) | (go_simp; rfl))
                intro gb184 hg w46 hbox hb
                have n0_ := Aside0.mk (blk_below (g := gb183) (o := .cells #[.int .u8 0, .string (⟨#[]⟩ : ByteArray), .int .i64 0, .slice none 0 0, .int .i64 0] 61 (0, 0)) (by (with_reducible repeat (first | refine blk_drewN ?_ _ | refine blk_drew ?_ | refine blk_alloc ?_ _)); exact BK183.out) hb)
                have n1_ := Aside0.mk (below_step (by repeat (first | (with_reducible first | exact HB.out | apply below_alloc | apply pw_below_drewN | apply below_drew1 | refine below_set ?_ GE183.out) | exact HB.out)) hb)
                have n2_ := Aside0.mk (hbox)
                have n3_ := Aside0.mk ((by rw [hg]; exact (below_size (by repeat (first | (with_reducible first | exact HB.out | apply below_alloc | apply pw_below_drewN | apply below_drew1 | refine below_set ?_ GE183.out) | exact HB.out))) : w.heap.size ≤ gb184))
                have n4_ := Aside0.mk ((by rw [hg]; exact (below_size (by repeat (first | (with_reducible first | exact HB.out | apply below_alloc | apply pw_below_drewN | apply below_drew1 | refine below_set ?_ GE183.out) | exact HB.out))) : w.heap.size ≤ gb184))
                have n5_ := Aside0.mk ((by rw [hg]; exact Nat.ne_of_lt (blk_lt (g := gb183) (o := .cells #[.int .u8 0, .string (⟨#[]⟩ : ByteArray), .int .i64 0, .slice none 0 0, .int .i64 0] 61 (0, 0)) (by (with_reducible repeat (first | refine blk_drewN ?_ _ | refine blk_drew ?_ | refine blk_alloc ?_ _)); exact BK183.out)) : gb183 ≠ gb184))
                have n6_ := Aside0.mk ((by rw [hg]; exact Nat.ne_of_gt (blk_lt (g := gb183) (o := .cells #[.int .u8 0, .string (⟨#[]⟩ : ByteArray), .int .i64 0, .slice none 0 0, .int .i64 0] 61 (0, 0)) (by (with_reducible repeat (first | refine blk_drewN ?_ _ | refine blk_drew ?_ | refine blk_alloc ?_ _)); exact BK183.out)) : gb184 ≠ gb183))
                clear BK183
                clear HB
                have BK183 := n0_
                have HB := n1_
                have BK184 := n2_
                have GW184 := n3_
                have GE184 := n4_
                have NB183_184 := n5_
                have NB184_183 := n6_
                clear n0_ n1_ n2_ n3_ n4_ n5_ n6_
                clear hb hbox hg
                refine hK.out _ _ ⟨((HB.out.cell (World.block_lt_of_cell? w _ hw181_0)).trans hw181_0), ((HB.out.cell (World.block_lt_of_cell? w _ hw181_1)).trans hw181_1), ((HB.out.cell (World.block_lt_of_cell? w _ hw181_2)).trans hw181_2), ((HB.out.cell (World.block_lt_of_cell? w _ hw181_3)).trans hw181_3), ((HB.out.cell (World.block_lt_of_cell? w _ hw181_4)).trans hw181_4), ((HB.out.cell (World.block_lt_of_cell? w _ hw182_0)).trans hw182_0), ((HB.out.cell (World.block_lt_of_cell? w _ hw182_1)).trans hw182_1), ((HB.out.cell (World.block_lt_of_cell? w _ hw182_2)).trans hw182_2), ((HB.out.cell (World.block_lt_of_cell? w _ hw182_3)).trans hw182_3), ((HB.out.cell (World.block_lt_of_cell? w _ hw182_4)).trans hw182_4)⟩ (fun hHeld => ?_)
                clear hK K
                refine norm_ (a' := ?_) ?_ ?_
                rotate_left
                ·show Act.put _ (some 11) _ = _
                 simp only [Act.put, List.setIfInBounds_toArray, List.set_cons_zero, List.set_cons_succ, i64_w, i32_w]
                 rfl
                exact norm_ (by simp only [putAll, Act.put, List.setIfInBounds_toArray, List.set_cons_zero, List.set_cons_succ]) (hCont (gb183, gb184) _ ⟨hHeld, (by (with_reducible repeat (first | refine blk_drewN ?_ _ | refine blk_drew ?_ | refine blk_alloc ?_ _)); exact BK183.out), (by (with_reducible repeat (first | refine blk_drewN ?_ _ | refine blk_drew ?_ | refine blk_alloc ?_ _)); exact BK184.out), GW183.out, GE183.out, NB184_183.out, NB183_184.out, GW184.out, GE184.out, (by repeat (first | (with_reducible first | exact HB.out | apply below_alloc | apply pw_below_drewN | apply below_drew1 | refine below_set ?_ GE183.out | refine below_set ?_ GE184.out) | exact HB.out))⟩)
               ·skip
                refine box_step ?hg (N := 11) ?hd (cs := #[.int .u8 0, .string (⟨#[]⟩ : ByteArray), .int .i64 0, .slice none 0 0, .int .i64 0]) (t := 61) ?hr ?_; (case hd => rfl); (case hg => rfl); (case hr => first | (go_simp; done) | (go_simp; rfl))
                intro gb184 hg w45 hbox hb
                have n0_ := Aside0.mk (below_step (by repeat (first | (with_reducible first | exact HB.out | apply below_alloc | apply pw_below_drewN | apply below_drew1) | exact HB.out | exact Below.refl _ _)) hb)
                have n1_ := Aside0.mk (hbox)
                have n2_ := Aside0.mk ((by rw [hg]; exact (below_size (by repeat (first | (with_reducible first | exact HB.out | apply below_alloc | apply pw_below_drewN | apply below_drew1) | exact HB.out | exact Below.refl _ _))) : w.heap.size ≤ gb184))
                have n3_ := Aside0.mk ((by rw [hg]; exact (below_size (by repeat (first | (with_reducible first | exact HB.out | apply below_alloc | apply pw_below_drewN | apply below_drew1) | exact HB.out | exact Below.refl _ _))) : w.heap.size ≤ gb184))
                clear HB
                have HB := n0_
                have BK184 := n1_
                have GW184 := n2_
                have GE184 := n3_
                clear n0_ n1_ n2_ n3_
                clear hb hbox hg
                refine hK.out _ _ ⟨((HB.out.cell (World.block_lt_of_cell? w _ hw181_0)).trans hw181_0), ((HB.out.cell (World.block_lt_of_cell? w _ hw181_1)).trans hw181_1), ((HB.out.cell (World.block_lt_of_cell? w _ hw181_2)).trans hw181_2), ((HB.out.cell (World.block_lt_of_cell? w _ hw181_3)).trans hw181_3), ((HB.out.cell (World.block_lt_of_cell? w _ hw181_4)).trans hw181_4), ((HB.out.cell (World.block_lt_of_cell? w _ hw182_0)).trans hw182_0), ((HB.out.cell (World.block_lt_of_cell? w _ hw182_1)).trans hw182_1), ((HB.out.cell (World.block_lt_of_cell? w _ hw182_2)).trans hw182_2), ((HB.out.cell (World.block_lt_of_cell? w _ hw182_3)).trans hw182_3), ((HB.out.cell (World.block_lt_of_cell? w _ hw182_4)).trans hw182_4)⟩ (fun hHeld => ?_)
                clear hK K
                refine norm_ (a' := ?_) ?_ ?_
                rotate_left
                ·show Act.put _ (some 11) _ = _
                 simp only [Act.put, List.setIfInBounds_toArray, List.set_cons_zero, List.set_cons_succ, i64_w, i32_w]
                 rfl
                refine one_ (i := 8) (N := some 10) #[true,true,true,true,true,true,true,true,true,true,false,false] rfl rfl (one_of HT_.out (by kernel_rfl)) (by decide) (fun K hK => ?_)
                refine box_step ?hg (N := 10) ?hd (cs := #[.int .u8 0, .string (⟨#[]⟩ : ByteArray), .int .i64 0, .slice none 0 0, .int .i64 0]) (t := 61) ?hr ?_; (case hd => rfl); (case hg => rfl); (case hr => first | (go_simp; done) | (go_simp; rfl))
                intro gb183 hg w46 hbox hb
                have n0_ := Aside0.mk (blk_below (g := gb184) (o := .cells #[.int .u8 0, .string (⟨#[]⟩ : ByteArray), .int .i64 0, .slice none 0 0, .int .i64 0] 61 (0, 0)) (by (with_reducible repeat (first | refine blk_drewN ?_ _ | refine blk_drew ?_ | refine blk_alloc ?_ _)); exact BK184.out) hb)
                have n1_ := Aside0.mk (below_step (by repeat (first | (with_reducible first | exact HB.out | apply below_alloc | apply pw_below_drewN | apply below_drew1 | refine below_set ?_ GE184.out) | exact HB.out)) hb)
                have n2_ := Aside0.mk (hbox)
                have n3_ := Aside0.mk ((by rw [hg]; exact (below_size (by repeat (first | (with_reducible first | exact HB.out | apply below_alloc | apply pw_below_drewN | apply below_drew1 | refine below_set ?_ GE184.out) | exact HB.out))) : w.heap.size ≤ gb183))
                have n4_ := Aside0.mk ((by rw [hg]; exact (below_size (by repeat (first | (with_reducible first | exact HB.out | apply below_alloc | apply pw_below_drewN | apply below_drew1 | refine below_set ?_ GE184.out) | exact HB.out))) : w.heap.size ≤ gb183))
                have n5_ := Aside0.mk ((by rw [hg]; exact Nat.ne_of_lt (blk_lt (g := gb184) (o := .cells #[.int .u8 0, .string (⟨#[]⟩ : ByteArray), .int .i64 0, .slice none 0 0, .int .i64 0] 61 (0, 0)) (by (with_reducible repeat (first | refine blk_drewN ?_ _ | refine blk_drew ?_ | refine blk_alloc ?_ _)); exact BK184.out)) : gb184 ≠ gb183))
                have n6_ := Aside0.mk ((by rw [hg]; exact Nat.ne_of_gt (blk_lt (g := gb184) (o := .cells #[.int .u8 0, .string (⟨#[]⟩ : ByteArray), .int .i64 0, .slice none 0 0, .int .i64 0] 61 (0, 0)) (by (with_reducible repeat (first | refine blk_drewN ?_ _ | refine blk_drew ?_ | refine blk_alloc ?_ _)); exact BK184.out)) : gb183 ≠ gb184))
                clear BK184
                clear HB
                have BK184 := n0_
                have HB := n1_
                have BK183 := n2_
                have GW183 := n3_
                have GE183 := n4_
                have NB184_183 := n5_
                have NB183_184 := n6_
                clear n0_ n1_ n2_ n3_ n4_ n5_ n6_
                clear hb hbox hg
                refine hK.out _ _ ⟨((HB.out.cell (World.block_lt_of_cell? w _ hw181_0)).trans hw181_0), ((HB.out.cell (World.block_lt_of_cell? w _ hw181_1)).trans hw181_1), ((HB.out.cell (World.block_lt_of_cell? w _ hw181_2)).trans hw181_2), ((HB.out.cell (World.block_lt_of_cell? w _ hw181_3)).trans hw181_3), ((HB.out.cell (World.block_lt_of_cell? w _ hw181_4)).trans hw181_4), ((HB.out.cell (World.block_lt_of_cell? w _ hw182_0)).trans hw182_0), ((HB.out.cell (World.block_lt_of_cell? w _ hw182_1)).trans hw182_1), ((HB.out.cell (World.block_lt_of_cell? w _ hw182_2)).trans hw182_2), ((HB.out.cell (World.block_lt_of_cell? w _ hw182_3)).trans hw182_3), ((HB.out.cell (World.block_lt_of_cell? w _ hw182_4)).trans hw182_4)⟩ (fun hHeld => ?_)
                clear hK K
                refine norm_ (a' := ?_) ?_ ?_
                rotate_left
                ·show Act.put _ (some 10) _ = _
                 simp only [Act.put, List.setIfInBounds_toArray, List.set_cons_zero, List.set_cons_succ, i64_w, i32_w]
                 rfl
                exact norm_ (by simp only [putAll, Act.put, List.setIfInBounds_toArray, List.set_cons_zero, List.set_cons_succ]) (hCont (gb183, gb184) _ ⟨hHeld, (by (with_reducible repeat (first | refine blk_drewN ?_ _ | refine blk_drew ?_ | refine blk_alloc ?_ _)); exact BK183.out), (by (with_reducible repeat (first | refine blk_drewN ?_ _ | refine blk_drew ?_ | refine blk_alloc ?_ _)); exact BK184.out), GW183.out, GE183.out, NB184_183.out, NB183_184.out, GW184.out, GE184.out, (by repeat (first | (with_reducible first | exact HB.out | apply below_alloc | apply pw_below_drewN | apply below_drew1 | refine below_set ?_ GE184.out | refine below_set ?_ GE183.out) | exact HB.out))⟩)
              rintro ⟨gb183, gb184⟩ w47 ⟨hS_, h0_, h1_, h2_, h3_, h4_, h5_, h6_, h7_, h8_⟩
              have n0_ : Aside0 (w47.heap[gb183]? = some (.cells #[.int .u8 0, .string (⟨#[]⟩ : ByteArray), .int .i64 0, .slice none 0 0, .int .i64 0] 61 (0, 0))) := ⟨h0_⟩
              have n1_ : Aside0 (w47.heap[gb184]? = some (.cells #[.int .u8 0, .string (⟨#[]⟩ : ByteArray), .int .i64 0, .slice none 0 0, .int .i64 0] 61 (0, 0))) := ⟨h1_⟩
              have n2_ : Aside0 (w.heap.size ≤ gb183) := ⟨h2_⟩
              have n3_ : Aside0 (w.heap.size ≤ gb183) := ⟨h3_⟩
              have n4_ : Aside0 (gb184 ≠ gb183) := ⟨h4_⟩
              have n5_ : Aside0 (gb183 ≠ gb184) := ⟨h5_⟩
              have n6_ : Aside0 (w.heap.size ≤ gb184) := ⟨h6_⟩
              have n7_ : Aside0 (w.heap.size ≤ gb184) := ⟨h7_⟩
              have n8_ : Aside0 (Below w.heap.size w w47) := ⟨h8_⟩
              clear HB
              clear h0_ h1_ h2_ h3_ h4_ h5_ h6_ h7_ h8_
              have BK183 := n0_
              have BK184 := n1_
              have GW183 := n2_
              have GE183 := n3_
              have NB184_183 := n4_
              have NB183_184 := n5_
              have GW184 := n6_
              have GE184 := n7_
              have HB := n8_
              clear n0_ n1_ n2_ n3_ n4_ n5_ n6_ n7_ n8_
              have hHeld : w47.cell? (ad181.add ((x38_2).toNat * 5)) = some (.int .u8 ((rd_T61 l0 x38_2).f0)) ∧ w47.cell? ⟨(ad181.add ((x38_2).toNat * 5)).block, (ad181.add ((x38_2).toNat * 5)).off + 1, none⟩ = some (.string ((rd_T61 l0 x38_2).f1)) ∧ w47.cell? ⟨(ad181.add ((x38_2).toNat * 5)).block, (ad181.add ((x38_2).toNat * 5)).off + 2, none⟩ = some (.int .i64 ((rd_T61 l0 x38_2).f2)) ∧ w47.cell? ⟨(ad181.add ((x38_2).toNat * 5)).block, (ad181.add ((x38_2).toNat * 5)).off + 3, none⟩ = some (.slice A181_3 ((rd_T61 l0 x38_2).f3).length c181_3) ∧ w47.cell? ⟨(ad181.add ((x38_2).toNat * 5)).block, (ad181.add ((x38_2).toNat * 5)).off + 4, none⟩ = some (.int .i64 ((rd_T61 l0 x38_2).f4)) ∧ w47.cell? (ad182.add ((x38_2).toNat * 5)) = some (.int .u8 ((rd_T61 l2 x38_2).f0)) ∧ w47.cell? ⟨(ad182.add ((x38_2).toNat * 5)).block, (ad182.add ((x38_2).toNat * 5)).off + 1, none⟩ = some (.string ((rd_T61 l2 x38_2).f1)) ∧ w47.cell? ⟨(ad182.add ((x38_2).toNat * 5)).block, (ad182.add ((x38_2).toNat * 5)).off + 2, none⟩ = some (.int .i64 ((rd_T61 l2 x38_2).f2)) ∧ w47.cell? ⟨(ad182.add ((x38_2).toNat * 5)).block, (ad182.add ((x38_2).toNat * 5)).off + 3, none⟩ = some (.slice A182_3 ((rd_T61 l2 x38_2).f3).length c182_3) ∧ w47.cell? ⟨(ad182.add ((x38_2).toNat * 5)).block, (ad182.add ((x38_2).toNat * 5)).off + 4, none⟩ = some (.int .i64 ((rd_T61 l2 x38_2).f4)) := hS_
              refine norm_ (a' := ?_) ?_ ?_
              rotate_left
              ·simp only [putAll, Act.put, List.setIfInBounds_toArray, List.set_cons_zero, List.set_cons_succ]
               rfl
              refine one_ (i := 10) (N := none) #[true,true,true,true,true,true,true,true,true,true,true,false] rfl rfl (one_of HT_.out (by kernel_rfl)) (by decide) (fun K hK => ?_)
              have hs48 : w47.cell? ⟨gb183, 0, none⟩ = some (.int .u8 0) := (blk_cell BK183.out 0).trans rfl
              have hfs48 := blk_frozen BK183.out 0
              have hns48_1 := NB184_183.out
              have hms48_1 := NB183_184.out
              have hs49 : w47.cell? ⟨gb183, 1, none⟩ = some (.string (⟨#[]⟩ : ByteArray)) := (blk_cell BK183.out 1).trans rfl
              have hfs49 := blk_frozen BK183.out 1
              have hns49_1 := NB184_183.out
              have hms49_1 := NB183_184.out
              have hs50 : w47.cell? ⟨gb183, 2, none⟩ = some (.int .i64 0) := (blk_cell BK183.out 2).trans rfl
              have hfs50 := blk_frozen BK183.out 2
              have hns50_1 := NB184_183.out
              have hms50_1 := NB183_184.out
              have hs51 : w47.cell? ⟨gb183, 3, none⟩ = some (.slice none 0 0) := (blk_cell BK183.out 3).trans rfl
              have hfs51 := blk_frozen BK183.out 3
              have hns51_1 := NB184_183.out
              have hms51_1 := NB183_184.out
              have hs52 : w47.cell? ⟨gb183, 4, none⟩ = some (.int .i64 0) := (blk_cell BK183.out 4).trans rfl
              have hfs52 := blk_frozen BK183.out 4
              have hns52_1 := NB184_183.out
              have hms52_1 := NB183_184.out
              refine skip_ (w1 := ?_) (by rfl) rfl ?_ ?_
              rotate_left
              ·go_simp
               rfl
              have q10_3 := Nat.ne_of_lt (Nat.lt_of_lt_of_le (World.block_lt_of_cell? _ _ hw181_0) GW183.out)
              have q11_3 := Nat.ne_of_lt (Nat.lt_of_lt_of_le (World.block_lt_of_cell? _ _ hw181_1) GW183.out)
              have q12_3 := Nat.ne_of_lt (Nat.lt_of_lt_of_le (World.block_lt_of_cell? _ _ hw181_2) GW183.out)
              have q13_3 := Nat.ne_of_lt (Nat.lt_of_lt_of_le (World.block_lt_of_cell? _ _ hw181_3) GW183.out)
              have q14_3 := Nat.ne_of_lt (Nat.lt_of_lt_of_le (World.block_lt_of_cell? _ _ hw181_4) GW183.out)
              have q20_3 := Nat.ne_of_lt (Nat.lt_of_lt_of_le (World.block_lt_of_cell? _ _ hw182_0) GW183.out)
              have q21_3 := Nat.ne_of_lt (Nat.lt_of_lt_of_le (World.block_lt_of_cell? _ _ hw182_1) GW183.out)
              have q22_3 := Nat.ne_of_lt (Nat.lt_of_lt_of_le (World.block_lt_of_cell? _ _ hw182_2) GW183.out)
              have q23_3 := Nat.ne_of_lt (Nat.lt_of_lt_of_le (World.block_lt_of_cell? _ _ hw182_3) GW183.out)
              have q24_3 := Nat.ne_of_lt (Nat.lt_of_lt_of_le (World.block_lt_of_cell? _ _ hw182_4) GW183.out)
              refine hK.out _ _ ⟨((cell_far (p := ⟨gb183, _, none⟩) q10_3 _).trans (((cell_far (p := ⟨gb183, _, none⟩) q10_3 _).trans (((cell_far (p := ⟨gb183, _, none⟩) q10_3 _).trans (((cell_far (p := ⟨gb183, _, none⟩) q10_3 _).trans (((cell_far (p := ⟨gb183, _, none⟩) q10_3 _).trans (hHeld.1)))))))))), ((cell_far (p := ⟨gb183, _, none⟩) q11_3 _).trans (((cell_far (p := ⟨gb183, _, none⟩) q11_3 _).trans (((cell_far (p := ⟨gb183, _, none⟩) q11_3 _).trans (((cell_far (p := ⟨gb183, _, none⟩) q11_3 _).trans (((cell_far (p := ⟨gb183, _, none⟩) q11_3 _).trans (hHeld.2.1)))))))))), ((cell_far (p := ⟨gb183, _, none⟩) q12_3 _).trans (((cell_far (p := ⟨gb183, _, none⟩) q12_3 _).trans (((cell_far (p := ⟨gb183, _, none⟩) q12_3 _).trans (((cell_far (p := ⟨gb183, _, none⟩) q12_3 _).trans (((cell_far (p := ⟨gb183, _, none⟩) q12_3 _).trans (hHeld.2.2.1)))))))))), ((cell_far (p := ⟨gb183, _, none⟩) q13_3 _).trans (((cell_far (p := ⟨gb183, _, none⟩) q13_3 _).trans (((cell_far (p := ⟨gb183, _, none⟩) q13_3 _).trans (((cell_far (p := ⟨gb183, _, none⟩) q13_3 _).trans (((cell_far (p := ⟨gb183, _, none⟩) q13_3 _).trans (hHeld.2.2.2.1)))))))))), ((cell_far (p := ⟨gb183, _, none⟩) q14_3 _).trans (((cell_far (p := ⟨gb183, _, none⟩) q14_3 _).trans (((cell_far (p := ⟨gb183, _, none⟩) q14_3 _).trans (((cell_far (p := ⟨gb183, _, none⟩) q14_3 _).trans (((cell_far (p := ⟨gb183, _, none⟩) q14_3 _).trans (hHeld.2.2.2.2.1)))))))))), ((cell_far (p := ⟨gb183, _, none⟩) q20_3 _).trans (((cell_far (p := ⟨gb183, _, none⟩) q20_3 _).trans (((cell_far (p := ⟨gb183, _, none⟩) q20_3 _).trans (((cell_far (p := ⟨gb183, _, none⟩) q20_3 _).trans (((cell_far (p := ⟨gb183, _, none⟩) q20_3 _).trans (hHeld.2.2.2.2.2.1)))))))))), ((cell_far (p := ⟨gb183, _, none⟩) q21_3 _).trans (((cell_far (p := ⟨gb183, _, none⟩) q21_3 _).trans (((cell_far (p := ⟨gb183, _, none⟩) q21_3 _).trans (((cell_far (p := ⟨gb183, _, none⟩) q21_3 _).trans (((cell_far (p := ⟨gb183, _, none⟩) q21_3 _).trans (hHeld.2.2.2.2.2.2.1)))))))))), ((cell_far (p := ⟨gb183, _, none⟩) q22_3 _).trans (((cell_far (p := ⟨gb183, _, none⟩) q22_3 _).trans (((cell_far (p := ⟨gb183, _, none⟩) q22_3 _).trans (((cell_far (p := ⟨gb183, _, none⟩) q22_3 _).trans (((cell_far (p := ⟨gb183, _, none⟩) q22_3 _).trans (hHeld.2.2.2.2.2.2.2.1)))))))))), ((cell_far (p := ⟨gb183, _, none⟩) q23_3 _).trans (((cell_far (p := ⟨gb183, _, none⟩) q23_3 _).trans (((cell_far (p := ⟨gb183, _, none⟩) q23_3 _).trans (((cell_far (p := ⟨gb183, _, none⟩) q23_3 _).trans (((cell_far (p := ⟨gb183, _, none⟩) q23_3 _).trans (hHeld.2.2.2.2.2.2.2.2.1)))))))))), ((cell_far (p := ⟨gb183, _, none⟩) q24_3 _).trans (((cell_far (p := ⟨gb183, _, none⟩) q24_3 _).trans (((cell_far (p := ⟨gb183, _, none⟩) q24_3 _).trans (((cell_far (p := ⟨gb183, _, none⟩) q24_3 _).trans (((cell_far (p := ⟨gb183, _, none⟩) q24_3 _).trans (hHeld.2.2.2.2.2.2.2.2.2))))))))))⟩ (fun hHeld => ?_)
              clear hK K
              refine one_ (i := 11) (N := none) #[true,true,true,true,true,true,true,true,true,true,true,true] rfl rfl (one_of HT_.out (by kernel_rfl)) (by decide) (fun K hK => ?_)
              have hs53 : w47.cell? ⟨gb184, 0, none⟩ = some (.int .u8 0) := (blk_cell BK184.out 0).trans rfl
              have hfs53 := blk_frozen BK184.out 0
              have hns53_0 := NB183_184.out
              have hms53_0 := NB184_183.out
              have hs54 : w47.cell? ⟨gb184, 1, none⟩ = some (.string (⟨#[]⟩ : ByteArray)) := (blk_cell BK184.out 1).trans rfl
              have hfs54 := blk_frozen BK184.out 1
              have hns54_0 := NB183_184.out
              have hms54_0 := NB184_183.out
              have hs55 : w47.cell? ⟨gb184, 2, none⟩ = some (.int .i64 0) := (blk_cell BK184.out 2).trans rfl
              have hfs55 := blk_frozen BK184.out 2
              have hns55_0 := NB183_184.out
              have hms55_0 := NB184_183.out
              have hs56 : w47.cell? ⟨gb184, 3, none⟩ = some (.slice none 0 0) := (blk_cell BK184.out 3).trans rfl
              have hfs56 := blk_frozen BK184.out 3
              have hns56_0 := NB183_184.out
              have hms56_0 := NB184_183.out
              have hs57 : w47.cell? ⟨gb184, 4, none⟩ = some (.int .i64 0) := (blk_cell BK184.out 4).trans rfl
              have hfs57 := blk_frozen BK184.out 4
              have hns57_0 := NB183_184.out
              have hms57_0 := NB184_183.out
              refine skip_ (w1 := ?_) (by rfl) rfl ?_ ?_
              rotate_left
              ·go_simp
               rfl
              have q10_4 := Nat.ne_of_lt (Nat.lt_of_lt_of_le (World.block_lt_of_cell? _ _ hw181_0) GW184.out)
              have q11_4 := Nat.ne_of_lt (Nat.lt_of_lt_of_le (World.block_lt_of_cell? _ _ hw181_1) GW184.out)
              have q12_4 := Nat.ne_of_lt (Nat.lt_of_lt_of_le (World.block_lt_of_cell? _ _ hw181_2) GW184.out)
              have q13_4 := Nat.ne_of_lt (Nat.lt_of_lt_of_le (World.block_lt_of_cell? _ _ hw181_3) GW184.out)
              have q14_4 := Nat.ne_of_lt (Nat.lt_of_lt_of_le (World.block_lt_of_cell? _ _ hw181_4) GW184.out)
              have q20_4 := Nat.ne_of_lt (Nat.lt_of_lt_of_le (World.block_lt_of_cell? _ _ hw182_0) GW184.out)
              have q21_4 := Nat.ne_of_lt (Nat.lt_of_lt_of_le (World.block_lt_of_cell? _ _ hw182_1) GW184.out)
              have q22_4 := Nat.ne_of_lt (Nat.lt_of_lt_of_le (World.block_lt_of_cell? _ _ hw182_2) GW184.out)
              have q23_4 := Nat.ne_of_lt (Nat.lt_of_lt_of_le (World.block_lt_of_cell? _ _ hw182_3) GW184.out)
              have q24_4 := Nat.ne_of_lt (Nat.lt_of_lt_of_le (World.block_lt_of_cell? _ _ hw182_4) GW184.out)
              refine hK.out _ _ ⟨((cell_far (p := ⟨gb184, _, none⟩) q10_4 _).trans (((cell_far (p := ⟨gb184, _, none⟩) q10_4 _).trans (((cell_far (p := ⟨gb184, _, none⟩) q10_4 _).trans (((cell_far (p := ⟨gb184, _, none⟩) q10_4 _).trans (((cell_far (p := ⟨gb184, _, none⟩) q10_4 _).trans (hHeld.1)))))))))), ((cell_far (p := ⟨gb184, _, none⟩) q11_4 _).trans (((cell_far (p := ⟨gb184, _, none⟩) q11_4 _).trans (((cell_far (p := ⟨gb184, _, none⟩) q11_4 _).trans (((cell_far (p := ⟨gb184, _, none⟩) q11_4 _).trans (((cell_far (p := ⟨gb184, _, none⟩) q11_4 _).trans (hHeld.2.1)))))))))), ((cell_far (p := ⟨gb184, _, none⟩) q12_4 _).trans (((cell_far (p := ⟨gb184, _, none⟩) q12_4 _).trans (((cell_far (p := ⟨gb184, _, none⟩) q12_4 _).trans (((cell_far (p := ⟨gb184, _, none⟩) q12_4 _).trans (((cell_far (p := ⟨gb184, _, none⟩) q12_4 _).trans (hHeld.2.2.1)))))))))), ((cell_far (p := ⟨gb184, _, none⟩) q13_4 _).trans (((cell_far (p := ⟨gb184, _, none⟩) q13_4 _).trans (((cell_far (p := ⟨gb184, _, none⟩) q13_4 _).trans (((cell_far (p := ⟨gb184, _, none⟩) q13_4 _).trans (((cell_far (p := ⟨gb184, _, none⟩) q13_4 _).trans (hHeld.2.2.2.1)))))))))), ((cell_far (p := ⟨gb184, _, none⟩) q14_4 _).trans (((cell_far (p := ⟨gb184, _, none⟩) q14_4 _).trans (((cell_far (p := ⟨gb184, _, none⟩) q14_4 _).trans (((cell_far (p := ⟨gb184, _, none⟩) q14_4 _).trans (((cell_far (p := ⟨gb184, _, none⟩) q14_4 _).trans (hHeld.2.2.2.2.1)))))))))), ((cell_far (p := ⟨gb184, _, none⟩) q20_4 _).trans (((cell_far (p := ⟨gb184, _, none⟩) q20_4 _).trans (((cell_far (p := ⟨gb184, _, none⟩) q20_4 _).trans (((cell_far (p := ⟨gb184, _, none⟩) q20_4 _).trans (((cell_far (p := ⟨gb184, _, none⟩) q20_4 _).trans (hHeld.2.2.2.2.2.1)))))))))), ((cell_far (p := ⟨gb184, _, none⟩) q21_4 _).trans (((cell_far (p := ⟨gb184, _, none⟩) q21_4 _).trans (((cell_far (p := ⟨gb184, _, none⟩) q21_4 _).trans (((cell_far (p := ⟨gb184, _, none⟩) q21_4 _).trans (((cell_far (p := ⟨gb184, _, none⟩) q21_4 _).trans (hHeld.2.2.2.2.2.2.1)))))))))), ((cell_far (p := ⟨gb184, _, none⟩) q22_4 _).trans (((cell_far (p := ⟨gb184, _, none⟩) q22_4 _).trans (((cell_far (p := ⟨gb184, _, none⟩) q22_4 _).trans (((cell_far (p := ⟨gb184, _, none⟩) q22_4 _).trans (((cell_far (p := ⟨gb184, _, none⟩) q22_4 _).trans (hHeld.2.2.2.2.2.2.2.1)))))))))), ((cell_far (p := ⟨gb184, _, none⟩) q23_4 _).trans (((cell_far (p := ⟨gb184, _, none⟩) q23_4 _).trans (((cell_far (p := ⟨gb184, _, none⟩) q23_4 _).trans (((cell_far (p := ⟨gb184, _, none⟩) q23_4 _).trans (((cell_far (p := ⟨gb184, _, none⟩) q23_4 _).trans (hHeld.2.2.2.2.2.2.2.2.1)))))))))), ((cell_far (p := ⟨gb184, _, none⟩) q24_4 _).trans (((cell_far (p := ⟨gb184, _, none⟩) q24_4 _).trans (((cell_far (p := ⟨gb184, _, none⟩) q24_4 _).trans (((cell_far (p := ⟨gb184, _, none⟩) q24_4 _).trans (((cell_far (p := ⟨gb184, _, none⟩) q24_4 _).trans (hHeld.2.2.2.2.2.2.2.2.2))))))))))⟩ (fun hHeld => ?_)
              clear hK K
              refine done_ (done_of HT_.out (by kernel_rfl)) ?_
              have hnb58 := NB183_184.out
              have hnc58 := NB184_183.out
              have hcz59_0 : w47.cell? ⟨gb183, 0, none⟩ = some (.int .u8 0) := (blk_cell BK183.out 0).trans rfl
              have hcz59_1 : w47.cell? ⟨gb183, 1, none⟩ = some (.string (⟨#[]⟩ : ByteArray)) := (blk_cell BK183.out 1).trans rfl
              have hcz59_2 : w47.cell? ⟨gb183, 2, none⟩ = some (.int .i64 0) := (blk_cell BK183.out 2).trans rfl
              have hcz59_3 : w47.cell? ⟨gb183, 3, none⟩ = some (.slice none 0 0) := (blk_cell BK183.out 3).trans rfl
              have hcz59_4 : w47.cell? ⟨gb183, 4, none⟩ = some (.int .i64 0) := (blk_cell BK183.out 4).trans rfl
              have hfz59_0 := blk_frozen BK183.out 0
              have hfz59_1 := blk_frozen BK183.out 1
              have hfz59_2 := blk_frozen BK183.out 2
              have hfz59_3 := blk_frozen BK183.out 3
              have hfz59_4 := blk_frozen BK183.out 4
              have hcz60_0 : w47.cell? ⟨gb184, 0, none⟩ = some (.int .u8 0) := (blk_cell BK184.out 0).trans rfl
              have hcz60_1 : w47.cell? ⟨gb184, 1, none⟩ = some (.string (⟨#[]⟩ : ByteArray)) := (blk_cell BK184.out 1).trans rfl
              have hcz60_2 : w47.cell? ⟨gb184, 2, none⟩ = some (.int .i64 0) := (blk_cell BK184.out 2).trans rfl
              have hcz60_3 : w47.cell? ⟨gb184, 3, none⟩ = some (.slice none 0 0) := (blk_cell BK184.out 3).trans rfl
              have hcz60_4 : w47.cell? ⟨gb184, 4, none⟩ = some (.int .i64 0) := (blk_cell BK184.out 4).trans rfl
              have hfz60_0 := blk_frozen BK184.out 0
              have hfz60_1 := blk_frozen BK184.out 1
              have hfz60_2 := blk_frozen BK184.out 2
              have hfz60_3 := blk_frozen BK184.out 3
              have hfz60_4 := blk_frozen BK184.out 4
              try go_wp2
              go_ret
              exact ⟨by first | rfl | (simp [errW_none, errW_some] <;> rfl) | (simp [*, errW_none, errW_some] <;> rfl), by repeat (first | (with_reducible first | exact HB.out | apply below_alloc | apply pw_below_drewN | apply below_drew1 | refine below_set ?_ GE183.out | refine below_set ?_ GE184.out) | exact HB.out)⟩
            ·rw [if_neg c25] at H
             have c25b0 : (((rd_T61 l0 x38_2).f2) == ((rd_T61 l2 x38_2).f2)) = false := beq_eq_false_iff_ne.mpr c25
             have c25b1 : (((rd_T61 l0 x38_2).f2) != ((rd_T61 l2 x38_2).f2)) = true := bne_iff_ne.mpr c25
             obtain rfl := Option.some.inj H
             try go_wp2
             have n0_ := Aside0.mk (below_drew1 HB.out)
             clear HB
             have HB := n0_
             clear n0_
             have p181 : 0 ≤ (x38_2 : Int) := of_decide_eq_true (by first | (with_reducible assumption) | assumption)
             have q181 : x38_2 < (l0.length : Int) := of_decide_eq_true (by first | (with_reducible assumption) | assumption)
             obtain ⟨ad181, A181_3, c181_3, e181, hx181_0, hx181_1, hx181_2, hx181_3, hx181_4, hl181_3, hi181_3⟩ := at_T61 HR0.out x38_2 p181 q181
             have hw181_4 := hx181_4
             have hw181_3 := hx181_3
             have hw181_2 := hx181_2
             have hw181_1 := hx181_1
             have hw181_0 := hx181_0
             cases e181
             replace hx181_0 := (HB.out.cell (World.block_lt_of_cell? w _ hx181_0)).trans hx181_0
             replace hx181_1 := (HB.out.cell (World.block_lt_of_cell? w _ hx181_1)).trans hx181_1
             replace hx181_2 := (HB.out.cell (World.block_lt_of_cell? w _ hx181_2)).trans hx181_2
             replace hx181_3 := (HB.out.cell (World.block_lt_of_cell? w _ hx181_3)).trans hx181_3
             replace hx181_4 := (HB.out.cell (World.block_lt_of_cell? w _ hx181_4)).trans hx181_4
             have HR181_3 := Aside0.mk hi181_3
             have HC181_3 := Aside0.mk hl181_3
             clear hi181_3 hl181_3
             replace p181 := eq_true p181
             replace q181 := eq_true q181
             have p182 : 0 ≤ (x38_2 : Int) := of_decide_eq_true (by first | (with_reducible assumption) | assumption)
             have q182 : x38_2 < (l2.length : Int) := of_decide_eq_true (by first | (with_reducible assumption) | assumption)
             obtain ⟨ad182, A182_3, c182_3, e182, hx182_0, hx182_1, hx182_2, hx182_3, hx182_4, hl182_3, hi182_3⟩ := at_T61 HR2.out x38_2 p182 q182
             have hw182_4 := hx182_4
             have hw182_3 := hx182_3
             have hw182_2 := hx182_2
             have hw182_1 := hx182_1
             have hw182_0 := hx182_0
             cases e182
             replace hx182_0 := (HB.out.cell (World.block_lt_of_cell? w _ hx182_0)).trans hx182_0
             replace hx182_1 := (HB.out.cell (World.block_lt_of_cell? w _ hx182_1)).trans hx182_1
             replace hx182_2 := (HB.out.cell (World.block_lt_of_cell? w _ hx182_2)).trans hx182_2
             replace hx182_3 := (HB.out.cell (World.block_lt_of_cell? w _ hx182_3)).trans hx182_3
             replace hx182_4 := (HB.out.cell (World.block_lt_of_cell? w _ hx182_4)).trans hx182_4
             have HR182_3 := Aside0.mk hi182_3
             have HC182_3 := Aside0.mk hl182_3
             clear hi182_3 hl182_3
             replace p182 := eq_true p182
             replace q182 := eq_true q182
             refine start_ (n := 12) (S := fun w' => w'.cell? (ad181.add ((x38_2).toNat * 5)) = some (.int .u8 ((rd_T61 l0 x38_2).f0)) ∧ w'.cell? ⟨(ad181.add ((x38_2).toNat * 5)).block, (ad181.add ((x38_2).toNat * 5)).off + 1, none⟩ = some (.string ((rd_T61 l0 x38_2).f1)) ∧ w'.cell? ⟨(ad181.add ((x38_2).toNat * 5)).block, (ad181.add ((x38_2).toNat * 5)).off + 2, none⟩ = some (.int .i64 ((rd_T61 l0 x38_2).f2)) ∧ w'.cell? ⟨(ad181.add ((x38_2).toNat * 5)).block, (ad181.add ((x38_2).toNat * 5)).off + 3, none⟩ = some (.slice A181_3 ((rd_T61 l0 x38_2).f3).length c181_3) ∧ w'.cell? ⟨(ad181.add ((x38_2).toNat * 5)).block, (ad181.add ((x38_2).toNat * 5)).off + 4, none⟩ = some (.int .i64 ((rd_T61 l0 x38_2).f4)) ∧ w'.cell? (ad182.add ((x38_2).toNat * 5)) = some (.int .u8 ((rd_T61 l2 x38_2).f0)) ∧ w'.cell? ⟨(ad182.add ((x38_2).toNat * 5)).block, (ad182.add ((x38_2).toNat * 5)).off + 1, none⟩ = some (.string ((rd_T61 l2 x38_2).f1)) ∧ w'.cell? ⟨(ad182.add ((x38_2).toNat * 5)).block, (ad182.add ((x38_2).toNat * 5)).off + 2, none⟩ = some (.int .i64 ((rd_T61 l2 x38_2).f2)) ∧ w'.cell? ⟨(ad182.add ((x38_2).toNat * 5)).block, (ad182.add ((x38_2).toNat * 5)).off + 3, none⟩ = some (.slice A182_3 ((rd_T61 l2 x38_2).f3).length c182_3) ∧ w'.cell? ⟨(ad182.add ((x38_2).toNat * 5)).block, (ad182.add ((x38_2).toNat * 5)).off + 4, none⟩ = some (.int .i64 ((rd_T61 l2 x38_2).f4))) (ds := []) #[false,false,false,false,false,false,false,false,false,false,false,false] (by kernel_rfl) rfl rfl ⟨((HB.out.cell (World.block_lt_of_cell? w _ hw181_0)).trans hw181_0), ((HB.out.cell (World.block_lt_of_cell? w _ hw181_1)).trans hw181_1), ((HB.out.cell (World.block_lt_of_cell? w _ hw181_2)).trans hw181_2), ((HB.out.cell (World.block_lt_of_cell? w _ hw181_3)).trans hw181_3), ((HB.out.cell (World.block_lt_of_cell? w _ hw181_4)).trans hw181_4), ((HB.out.cell (World.block_lt_of_cell? w _ hw182_0)).trans hw182_0), ((HB.out.cell (World.block_lt_of_cell? w _ hw182_1)).trans hw182_1), ((HB.out.cell (World.block_lt_of_cell? w _ hw182_2)).trans hw182_2), ((HB.out.cell (World.block_lt_of_cell? w _ hw182_3)).trans hw182_3), ((HB.out.cell (World.block_lt_of_cell? w _ hw182_4)).trans hw182_4)⟩ (fun hHeld => ?_); refine with_tabW show_Same.tab6 show_Same.bits6 (fun HT_ HW_ => ?_)
             generalize wr.drew = w61 at HB HR181_3 HR182_3 hx181_0 hx181_1 hx181_2 hx181_3 hx181_4 hx182_0 hx182_1 hx182_2 hx182_3 hx182_4 hHeld ⊢
             refine pure_ (i := 0) (N := some 41) (v := ?_) (a' := ?_) #[true,false,false,false,false,false,false,false,false,false,false,false] rfl rfl (any_of HT_.out (by kernel_rfl)) (fun _ _ _ h => h) (Or.inl ⟨by rfl, ?_⟩) ?_ ?_
             rotate_left
             ·intro w'
              go_simp
              with_reducible rfl
             rotate_left
             ·simp only [Act.put, List.setIfInBounds_toArray, List.set_cons_zero, List.set_cons_succ, i64_w, i32_w]
              rfl
             refine pure_ (i := 1) (N := some 42) (v := ?_) (a' := ?_) #[true,true,false,false,false,false,false,false,false,false,false,false] rfl rfl (any_of HT_.out (by kernel_rfl)) (fun _ _ _ h => h) (Or.inl ⟨by rfl, ?_⟩) ?_ ?_
             rotate_left
             ·intro w'
              go_simp
              with_reducible rfl
             rotate_left
             ·simp only [Act.put, List.setIfInBounds_toArray, List.set_cons_zero, List.set_cons_succ, i64_w, i32_w]
              rfl
             refine pure_ (i := 2) (N := some 43) (v := ?_) (a' := ?_) #[true,true,true,false,false,false,false,false,false,false,false,false] rfl rfl (any_of HT_.out (by kernel_rfl)) (fun _ _ _ h => h) (Or.inl ⟨by rfl, ?_⟩) ?_ ?_
             rotate_left
             ·intro w'
              go_simp
              with_reducible rfl
             rotate_left
             ·simp only [Act.put, List.setIfInBounds_toArray, List.set_cons_zero, List.set_cons_succ, i64_w, i32_w]
              rfl
             refine pure_ (i := 4) (N := some 45) (v := ?_) (a' := ?_) #[true,true,true,false,true,false,false,false,false,false,false,false] rfl rfl (any_of HT_.out (by kernel_rfl)) (fun _ _ _ h => h) (Or.inl ⟨by rfl, ?_⟩) ?_ ?_
             rotate_left
             ·intro w'
              go_simp
              with_reducible rfl
             rotate_left
             ·simp only [Act.put, List.setIfInBounds_toArray, List.set_cons_zero, List.set_cons_succ, i64_w, i32_w]
              rfl
             refine pure_ (i := 5) (N := some 46) (v := ?_) (a' := ?_) #[true,true,true,false,true,true,false,false,false,false,false,false] rfl rfl (any_of HT_.out (by kernel_rfl)) (fun _ _ _ h => h) (Or.inl ⟨by rfl, ?_⟩) ?_ ?_
             rotate_left
             ·intro w'
              go_simp
              with_reducible rfl
             rotate_left
             ·simp only [Act.put, List.setIfInBounds_toArray, List.set_cons_zero, List.set_cons_succ, i64_w, i32_w]
              rfl
             refine pure_ (i := 6) (N := some 47) (v := ?_) (a' := ?_) #[true,true,true,false,true,true,true,false,false,false,false,false] rfl rfl (any_of HT_.out (by kernel_rfl)) (fun _ _ _ h => h) (Or.inl ⟨by rfl, ?_⟩) ?_ ?_
             rotate_left
             ·intro w'
              go_simp
              with_reducible rfl
             rotate_left
             ·simp only [Act.put, List.setIfInBounds_toArray, List.set_cons_zero, List.set_cons_succ, i64_w, i32_w]
              rfl
             refine take_ (i := 3) (N := some 44) (v := ?_) (a' := ?_) #[true,true,true,true,true,true,true,false,false,false,false,false] rfl rfl (take_ofW HT_.out HW_.out (by kernel_rfl)) (fun _ _ _ h => h) (Or.inl ⟨by rfl, ?_⟩) hHeld ?_ ?_
             rotate_left
             ·rintro w' ⟨s0, s1, s2, s3, s4, s5, s6, s7, s8, s9⟩
              go_simp
              with_reducible rfl
             rotate_left
             ·simp only [Act.put, List.setIfInBounds_toArray, List.set_cons_zero, List.set_cons_succ, i64_w, i32_w]
              rfl
             refine take_ (i := 7) (N := some 48) (v := ?_) (a' := ?_) #[true,true,true,true,true,true,true,true,false,false,false,false] rfl rfl (take_ofW HT_.out HW_.out (by kernel_rfl)) (fun _ _ _ h => h) (Or.inl ⟨by rfl, ?_⟩) hHeld ?_ ?_
             rotate_left
             ·rintro w' ⟨s0, s1, s2, s3, s4, s5, s6, s7, s8, s9⟩
              go_simp
              with_reducible rfl
             rotate_left
             ·simp only [Act.put, List.setIfInBounds_toArray, List.set_cons_zero, List.set_cons_succ, i64_w, i32_w]
              rfl
             refine join_ (σ := Nat × Nat) 2 #[true,true,true,true,true,true,true,true,true,true,false,false] (fun s_ => [(10, .pointer (some ⟨s_.1, 0, none⟩)), (11, .pointer (some ⟨s_.2, 0, none⟩))]) (fun s_ w' => (w'.cell? (ad181.add ((x38_2).toNat * 5)) = some (.int .u8 ((rd_T61 l0 x38_2).f0)) ∧ w'.cell? ⟨(ad181.add ((x38_2).toNat * 5)).block, (ad181.add ((x38_2).toNat * 5)).off + 1, none⟩ = some (.string ((rd_T61 l0 x38_2).f1)) ∧ w'.cell? ⟨(ad181.add ((x38_2).toNat * 5)).block, (ad181.add ((x38_2).toNat * 5)).off + 2, none⟩ = some (.int .i64 ((rd_T61 l0 x38_2).f2)) ∧ w'.cell? ⟨(ad181.add ((x38_2).toNat * 5)).block, (ad181.add ((x38_2).toNat * 5)).off + 3, none⟩ = some (.slice A181_3 ((rd_T61 l0 x38_2).f3).length c181_3) ∧ w'.cell? ⟨(ad181.add ((x38_2).toNat * 5)).block, (ad181.add ((x38_2).toNat * 5)).off + 4, none⟩ = some (.int .i64 ((rd_T61 l0 x38_2).f4)) ∧ w'.cell? (ad182.add ((x38_2).toNat * 5)) = some (.int .u8 ((rd_T61 l2 x38_2).f0)) ∧ w'.cell? ⟨(ad182.add ((x38_2).toNat * 5)).block, (ad182.add ((x38_2).toNat * 5)).off + 1, none⟩ = some (.string ((rd_T61 l2 x38_2).f1)) ∧ w'.cell? ⟨(ad182.add ((x38_2).toNat * 5)).block, (ad182.add ((x38_2).toNat * 5)).off + 2, none⟩ = some (.int .i64 ((rd_T61 l2 x38_2).f2)) ∧ w'.cell? ⟨(ad182.add ((x38_2).toNat * 5)).block, (ad182.add ((x38_2).toNat * 5)).off + 3, none⟩ = some (.slice A182_3 ((rd_T61 l2 x38_2).f3).length c182_3) ∧ w'.cell? ⟨(ad182.add ((x38_2).toNat * 5)).block, (ad182.add ((x38_2).toNat * 5)).off + 4, none⟩ = some (.int .i64 ((rd_T61 l2 x38_2).f4))) ∧ (w'.heap[s_.1]? = some (.cells #[.int .u8 0, .string (⟨#[]⟩ : ByteArray), .int .i64 0, .slice none 0 0, .int .i64 0] 61 (0, 0))) ∧ (w'.heap[s_.2]? = some (.cells #[.int .u8 0, .string (⟨#[]⟩ : ByteArray), .int .i64 0, .slice none 0 0, .int .i64 0] 61 (0, 0))) ∧ (w.heap.size ≤ s_.1) ∧ (w.heap.size ≤ s_.1) ∧ (s_.2 ≠ s_.1) ∧ (s_.1 ≠ s_.2) ∧ (w.heap.size ≤ s_.2) ∧ (w.heap.size ≤ s_.2) ∧ (Below w.heap.size w w')) ?_ ?_
             rotate_left
             ·intro hCont
              refine two_ (i := 8) (j := 9) (Ni := some 10) (Nj := some 11) #[true,true,true,true,true,true,true,true,true,false,false,false] #[true,true,true,true,true,true,true,true,false,true,false,false] rfl rfl rfl rfl (two_of HT_.out (by kernel_rfl)) (by decide) (by decide) (fun K hK => ?_) (fun K hK => ?_)
              ·skip
               refine box_step ?hg (N := 10) ?hd (cs := #[.int .u8 0, .string (⟨#[]⟩ : ByteArray), .int .i64 0, .slice none 0 0, .int .i64 0]) (t := 61) ?hr ?_; (case hd => rfl); (case hg => rfl); (case hr => first | (go_simp; done) | (go_simp; rfl))
               intro gb183 hg w62 hbox hb
               have n0_ := Aside0.mk (below_step (by repeat (first | (with_reducible first | exact HB.out | apply below_alloc | apply pw_below_drewN | apply below_drew1) | exact HB.out | exact Below.refl _ _)) hb)
               have n1_ := Aside0.mk (hbox)
               have n2_ := Aside0.mk ((by rw [hg]; exact (below_size (by repeat (first | (with_reducible first | exact HB.out | apply below_alloc | apply pw_below_drewN | apply below_drew1) | exact HB.out | exact Below.refl _ _))) : w.heap.size ≤ gb183))
               have n3_ := Aside0.mk ((by rw [hg]; exact (below_size (by repeat (first | (with_reducible first | exact HB.out | apply below_alloc | apply pw_below_drewN | apply below_drew1) | exact HB.out | exact Below.refl _ _))) : w.heap.size ≤ gb183))
               clear HB
               have HB := n0_
               have BK183 := n1_
               have GW183 := n2_
               have GE183 := n3_
               clear n0_ n1_ n2_ n3_
               clear hb hbox hg
               refine hK.out _ _ ⟨((HB.out.cell (World.block_lt_of_cell? w _ hw181_0)).trans hw181_0), ((HB.out.cell (World.block_lt_of_cell? w _ hw181_1)).trans hw181_1), ((HB.out.cell (World.block_lt_of_cell? w _ hw181_2)).trans hw181_2), ((HB.out.cell (World.block_lt_of_cell? w _ hw181_3)).trans hw181_3), ((HB.out.cell (World.block_lt_of_cell? w _ hw181_4)).trans hw181_4), ((HB.out.cell (World.block_lt_of_cell? w _ hw182_0)).trans hw182_0), ((HB.out.cell (World.block_lt_of_cell? w _ hw182_1)).trans hw182_1), ((HB.out.cell (World.block_lt_of_cell? w _ hw182_2)).trans hw182_2), ((HB.out.cell (World.block_lt_of_cell? w _ hw182_3)).trans hw182_3), ((HB.out.cell (World.block_lt_of_cell? w _ hw182_4)).trans hw182_4)⟩ (fun hHeld => ?_)
               clear hK K
               refine norm_ (a' := ?_) ?_ ?_
               rotate_left
               ·show Act.put _ (some 10) _ = _
                simp only [Act.put, List.setIfInBounds_toArray, List.set_cons_zero, List.set_cons_succ, i64_w, i32_w]
                rfl
               refine one_ (i := 9) (N := some 11) #[true,true,true,true,true,true,true,true,true,true,false,false] rfl rfl (one_of HT_.out (by kernel_rfl)) (by decide) (fun K hK => ?_)
               refine box_step ?hg (N := 11) ?hd (cs := #[.int .u8 0, .string (⟨#[]⟩ : ByteArray), .int .i64 0, .slice none 0 0, .int .i64 0]) (t := 61) ?hr ?_; (case hd => rfl); (case hg => rfl); (case hr => first | (go_simp; done) | (go_simp; rfl))
               intro gb184 hg w63 hbox hb
               have n0_ := Aside0.mk (blk_below (g := gb183) (o := .cells #[.int .u8 0, .string (⟨#[]⟩ : ByteArray), .int .i64 0, .slice none 0 0, .int .i64 0] 61 (0, 0)) (by (with_reducible repeat (first | refine blk_drewN ?_ _ | refine blk_drew ?_ | refine blk_alloc ?_ _)); exact BK183.out) hb)
               have n1_ := Aside0.mk (below_step (by repeat (first | (with_reducible first | exact HB.out | apply below_alloc | apply pw_below_drewN | apply below_drew1 | refine below_set ?_ GE183.out) | exact HB.out)) hb)
               have n2_ := Aside0.mk (hbox)
               have n3_ := Aside0.mk ((by rw [hg]; exact (below_size (by repeat (first | (with_reducible first | exact HB.out | apply below_alloc | apply pw_below_drewN | apply below_drew1 | refine below_set ?_ GE183.out) | exact HB.out))) : w.heap.size ≤ gb184))
               have n4_ := Aside0.mk ((by rw [hg]; exact (below_size (by repeat (first | (with_reducible first | exact HB.out | apply below_alloc | apply pw_below_drewN | apply below_drew1 | refine below_set ?_ GE183.out) | exact HB.out))) : w.heap.size ≤ gb184))
               have n5_ := Aside0.mk ((by rw [hg]; exact Nat.ne_of_lt (blk_lt (g := gb183) (o := .cells #[.int .u8 0, .string (⟨#[]⟩ : ByteArray), .int .i64 0, .slice none 0 0, .int .i64 0] 61 (0, 0)) (by (with_reducible repeat (first | refine blk_drewN ?_ _ | refine blk_drew ?_ | refine blk_alloc ?_ _)); exact BK183.out)) : gb183 ≠ gb184))
               have n6_ := Aside0.mk ((by rw [hg]; exact Nat.ne_of_gt (blk_lt (g := gb183) (o := .cells #[.int .u8 0, .string (⟨#[]⟩ : ByteArray), .int .i64 0, .slice none 0 0, .int .i64 0] 61 (0, 0)) (by (with_reducible repeat (first | refine blk_drewN ?_ _ | refine blk_drew ?_ | refine blk_alloc ?_ _)); exact BK183.out)) : gb184 ≠ gb183))
               clear BK183
               clear HB
               have BK183 := n0_
               have HB := n1_
               have BK184 := n2_
               have GW184 := n3_
               have GE184 := n4_
               have NB183_184 := n5_
               have NB184_183 := n6_
               clear n0_ n1_ n2_ n3_ n4_ n5_ n6_
               clear hb hbox hg
               refine hK.out _ _ ⟨((HB.out.cell (World.block_lt_of_cell? w _ hw181_0)).trans hw181_0), ((HB.out.cell (World.block_lt_of_cell? w _ hw181_1)).trans hw181_1), ((HB.out.cell (World.block_lt_of_cell? w _ hw181_2)).trans hw181_2), ((HB.out.cell (World.block_lt_of_cell? w _ hw181_3)).trans hw181_3), ((HB.out.cell (World.block_lt_of_cell? w _ hw181_4)).trans hw181_4), ((HB.out.cell (World.block_lt_of_cell? w _ hw182_0)).trans hw182_0), ((HB.out.cell (World.block_lt_of_cell? w _ hw182_1)).trans hw182_1), ((HB.out.cell (World.block_lt_of_cell? w _ hw182_2)).trans hw182_2), ((HB.out.cell (World.block_lt_of_cell? w _ hw182_3)).trans hw182_3), ((HB.out.cell (World.block_lt_of_cell? w _ hw182_4)).trans hw182_4)⟩ (fun hHeld => ?_)
               clear hK K
               refine norm_ (a' := ?_) ?_ ?_
               rotate_left
               ·show Act.put _ (some 11) _ = _
                simp only [Act.put, List.setIfInBounds_toArray, List.set_cons_zero, List.set_cons_succ, i64_w, i32_w]
                rfl
               exact norm_ (by simp only [putAll, Act.put, List.setIfInBounds_toArray, List.set_cons_zero, List.set_cons_succ]) (hCont (gb183, gb184) _ ⟨hHeld, (by (with_reducible repeat (first | refine blk_drewN ?_ _ | refine blk_drew ?_ | refine blk_alloc ?_ _)); exact BK183.out), (by (with_reducible repeat (first | refine blk_drewN ?_ _ | refine blk_drew ?_ | refine blk_alloc ?_ _)); exact BK184.out), GW183.out, GE183.out, NB184_183.out, NB183_184.out, GW184.out, GE184.out, (by repeat (first | (with_reducible first | exact HB.out | apply below_alloc | apply pw_below_drewN | apply below_drew1 | refine below_set ?_ GE183.out | refine below_set ?_ GE184.out) | exact HB.out))⟩)
              ·skip
               refine box_step ?hg (N := 11) ?hd (cs := #[.int .u8 0, .string (⟨#[]⟩ : ByteArray), .int .i64 0, .slice none 0 0, .int .i64 0]) (t := 61) ?hr ?_; (case hd => rfl); (case hg => rfl); (case hr => first | (go_simp; done) | (go_simp; rfl))
               intro gb184 hg w62 hbox hb
               have n0_ := Aside0.mk (below_step (by repeat (first | (with_reducible first | exact HB.out | apply below_alloc | apply pw_below_drewN | apply below_drew1) | exact HB.out | exact Below.refl _ _)) hb)
               have n1_ := Aside0.mk (hbox)
               have n2_ := Aside0.mk ((by rw [hg]; exact (below_size (by repeat (first | (with_reducible first | exact HB.out | apply below_alloc | apply pw_below_drewN | apply below_drew1) | exact HB.out | exact Below.refl _ _))) : w.heap.size ≤ gb184))
               have n3_ := Aside0.mk ((by rw [hg]; exact (below_size (by repeat (first | (with_reducible first | exact HB.out | apply below_alloc | apply pw_below_drewN | apply below_drew1) | exact HB.out | exact Below.refl _ _))) : w.heap.size ≤ gb184))
               clear HB
               have HB := n0_
               have BK184 := n1_
               have GW184 := n2_
               have GE184 := n3_
               clear n0_ n1_ n2_ n3_
               clear hb hbox hg
               refine hK.out _ _ ⟨((HB.out.cell (World.block_lt_of_cell? w _ hw181_0)).trans hw181_0), ((HB.out.cell (World.block_lt_of_cell? w _ hw181_1)).trans hw181_1), ((HB.out.cell (World.block_lt_of_cell? w _ hw181_2)).trans hw181_2), ((HB.out.cell (World.block_lt_of_cell? w _ hw181_3)).trans hw181_3), ((HB.out.cell (World.block_lt_of_cell? w _ hw181_4)).trans hw181_4), ((HB.out.cell (World.block_lt_of_cell? w _ hw182_0)).trans hw182_0), ((HB.out.cell (World.block_lt_of_cell? w _ hw182_1)).trans hw182_1), ((HB.out.cell (World.block_lt_of_cell? w _ hw182_2)).trans hw182_2), ((HB.out.cell (World.block_lt_of_cell? w _ hw182_3)).trans hw182_3), ((HB.out.cell (World.block_lt_of_cell? w _ hw182_4)).trans hw182_4)⟩ (fun hHeld => ?_)
               clear hK K
               refine norm_ (a' := ?_) ?_ ?_
               rotate_left
               ·show Act.put _ (some 11) _ = _
                simp only [Act.put, List.setIfInBounds_toArray, List.set_cons_zero, List.set_cons_succ, i64_w, i32_w]
                rfl
               refine one_ (i := 8) (N := some 10) #[true,true,true,true,true,true,true,true,true,true,false,false] rfl rfl (one_of HT_.out (by kernel_rfl)) (by decide) (fun K hK => ?_)
               refine box_step ?hg (N := 10) ?hd (cs := #[.int .u8 0, .string (⟨#[]⟩ : ByteArray), .int .i64 0, .slice none 0 0, .int .i64 0]) (t := 61) ?hr ?_; (case hd => rfl); (case hg => rfl); (case hr => first | (go_simp; done) | (go_simp; rfl))
               intro gb183 hg w63 hbox hb
               have n0_ := Aside0.mk (blk_below (g := gb184) (o := .cells #[.int .u8 0, .string (⟨#[]⟩ : ByteArray), .int .i64 0, .slice none 0 0, .int .i64 0] 61 (0, 0)) (by (with_reducible repeat (first | refine blk_drewN ?_ _ | refine blk_drew ?_ | refine blk_alloc ?_ _)); exact BK184.out) hb)
               have n1_ := Aside0.mk (below_step (by repeat (first | (with_reducible first | exact HB.out | apply below_alloc | apply pw_below_drewN | apply below_drew1 | refine below_set ?_ GE184.out) | exact HB.out)) hb)
               have n2_ := Aside0.mk (hbox)
               have n3_ := Aside0.mk ((by rw [hg]; exact (below_size (by repeat (first | (with_reducible first | exact HB.out | apply below_alloc | apply pw_below_drewN | apply below_drew1 | refine below_set ?_ GE184.out) | exact HB.out))) : w.heap.size ≤ gb183))
               have n4_ := Aside0.mk ((by rw [hg]; exact (below_size (by repeat (first | (with_reducible first | exact HB.out | apply below_alloc | apply pw_below_drewN | apply below_drew1 | refine below_set ?_ GE184.out) | exact HB.out))) : w.heap.size ≤ gb183))
               have n5_ := Aside0.mk ((by rw [hg]; exact Nat.ne_of_lt (blk_lt (g := gb184) (o := .cells #[.int .u8 0, .string (⟨#[]⟩ : ByteArray), .int .i64 0, .slice none 0 0, .int .i64 0] 61 (0, 0)) (by (with_reducible repeat (first | refine blk_drewN ?_ _ | refine blk_drew ?_ | refine blk_alloc ?_ _)); exact BK184.out)) : gb184 ≠ gb183))
               have n6_ := Aside0.mk ((by rw [hg]; exact Nat.ne_of_gt (blk_lt (g := gb184) (o := .cells #[.int .u8 0, .string (⟨#[]⟩ : ByteArray), .int .i64 0, .slice none 0 0, .int .i64 0] 61 (0, 0)) (by (with_reducible repeat (first | refine blk_drewN ?_ _ | refine blk_drew ?_ | refine blk_alloc ?_ _)); exact BK184.out)) : gb183 ≠ gb184))
               clear BK184
               clear HB
               have BK184 := n0_
               have HB := n1_
               have BK183 := n2_
               have GW183 := n3_
               have GE183 := n4_
               have NB184_183 := n5_
               have NB183_184 := n6_
               clear n0_ n1_ n2_ n3_ n4_ n5_ n6_
               clear hb hbox hg
               refine hK.out _ _ ⟨((HB.out.cell (World.block_lt_of_cell? w _ hw181_0)).trans hw181_0), ((HB.out.cell (World.block_lt_of_cell? w _ hw181_1)).trans hw181_1), ((HB.out.cell (World.block_lt_of_cell? w _ hw181_2)).trans hw181_2), ((HB.out.cell (World.block_lt_of_cell? w _ hw181_3)).trans hw181_3), ((HB.out.cell (World.block_lt_of_cell? w _ hw181_4)).trans hw181_4), ((HB.out.cell (World.block_lt_of_cell? w _ hw182_0)).trans hw182_0), ((HB.out.cell (World.block_lt_of_cell? w _ hw182_1)).trans hw182_1), ((HB.out.cell (World.block_lt_of_cell? w _ hw182_2)).trans hw182_2), ((HB.out.cell (World.block_lt_of_cell? w _ hw182_3)).trans hw182_3), ((HB.out.cell (World.block_lt_of_cell? w _ hw182_4)).trans hw182_4)⟩ (fun hHeld => ?_)
               clear hK K
               refine norm_ (a' := ?_) ?_ ?_
               rotate_left
               ·show Act.put _ (some 10) _ = _
                simp only [Act.put, List.setIfInBounds_toArray, List.set_cons_zero, List.set_cons_succ, i64_w, i32_w]
                rfl
               exact norm_ (by simp only [putAll, Act.put, List.setIfInBounds_toArray, List.set_cons_zero, List.set_cons_succ]) (hCont (gb183, gb184) _ ⟨hHeld, (by (with_reducible repeat (first | refine blk_drewN ?_ _ | refine blk_drew ?_ | refine blk_alloc ?_ _)); exact BK183.out), (by (with_reducible repeat (first | refine blk_drewN ?_ _ | refine blk_drew ?_ | refine blk_alloc ?_ _)); exact BK184.out), GW183.out, GE183.out, NB184_183.out, NB183_184.out, GW184.out, GE184.out, (by repeat (first | (with_reducible first | exact HB.out | apply below_alloc | apply pw_below_drewN | apply below_drew1 | refine below_set ?_ GE184.out | refine below_set ?_ GE183.out) | exact HB.out))⟩)
             rintro ⟨gb183, gb184⟩ w64 ⟨hS_, h0_, h1_, h2_, h3_, h4_, h5_, h6_, h7_, h8_⟩
             have n0_ : Aside0 (w64.heap[gb183]? = some (.cells #[.int .u8 0, .string (⟨#[]⟩ : ByteArray), .int .i64 0, .slice none 0 0, .int .i64 0] 61 (0, 0))) := ⟨h0_⟩
             have n1_ : Aside0 (w64.heap[gb184]? = some (.cells #[.int .u8 0, .string (⟨#[]⟩ : ByteArray), .int .i64 0, .slice none 0 0, .int .i64 0] 61 (0, 0))) := ⟨h1_⟩
             have n2_ : Aside0 (w.heap.size ≤ gb183) := ⟨h2_⟩
             have n3_ : Aside0 (w.heap.size ≤ gb183) := ⟨h3_⟩
             have n4_ : Aside0 (gb184 ≠ gb183) := ⟨h4_⟩
             have n5_ : Aside0 (gb183 ≠ gb184) := ⟨h5_⟩
             have n6_ : Aside0 (w.heap.size ≤ gb184) := ⟨h6_⟩
             have n7_ : Aside0 (w.heap.size ≤ gb184) := ⟨h7_⟩
             have n8_ : Aside0 (Below w.heap.size w w64) := ⟨h8_⟩
             clear HB
             clear h0_ h1_ h2_ h3_ h4_ h5_ h6_ h7_ h8_
             have BK183 := n0_
             have BK184 := n1_
             have GW183 := n2_
             have GE183 := n3_
             have NB184_183 := n4_
             have NB183_184 := n5_
             have GW184 := n6_
             have GE184 := n7_
             have HB := n8_
             clear n0_ n1_ n2_ n3_ n4_ n5_ n6_ n7_ n8_
             have hHeld : w64.cell? (ad181.add ((x38_2).toNat * 5)) = some (.int .u8 ((rd_T61 l0 x38_2).f0)) ∧ w64.cell? ⟨(ad181.add ((x38_2).toNat * 5)).block, (ad181.add ((x38_2).toNat * 5)).off + 1, none⟩ = some (.string ((rd_T61 l0 x38_2).f1)) ∧ w64.cell? ⟨(ad181.add ((x38_2).toNat * 5)).block, (ad181.add ((x38_2).toNat * 5)).off + 2, none⟩ = some (.int .i64 ((rd_T61 l0 x38_2).f2)) ∧ w64.cell? ⟨(ad181.add ((x38_2).toNat * 5)).block, (ad181.add ((x38_2).toNat * 5)).off + 3, none⟩ = some (.slice A181_3 ((rd_T61 l0 x38_2).f3).length c181_3) ∧ w64.cell? ⟨(ad181.add ((x38_2).toNat * 5)).block, (ad181.add ((x38_2).toNat * 5)).off + 4, none⟩ = some (.int .i64 ((rd_T61 l0 x38_2).f4)) ∧ w64.cell? (ad182.add ((x38_2).toNat * 5)) = some (.int .u8 ((rd_T61 l2 x38_2).f0)) ∧ w64.cell? ⟨(ad182.add ((x38_2).toNat * 5)).block, (ad182.add ((x38_2).toNat * 5)).off + 1, none⟩ = some (.string ((rd_T61 l2 x38_2).f1)) ∧ w64.cell? ⟨(ad182.add ((x38_2).toNat * 5)).block, (ad182.add ((x38_2).toNat * 5)).off + 2, none⟩ = some (.int .i64 ((rd_T61 l2 x38_2).f2)) ∧ w64.cell? ⟨(ad182.add ((x38_2).toNat * 5)).block, (ad182.add ((x38_2).toNat * 5)).off + 3, none⟩ = some (.slice A182_3 ((rd_T61 l2 x38_2).f3).length c182_3) ∧ w64.cell? ⟨(ad182.add ((x38_2).toNat * 5)).block, (ad182.add ((x38_2).toNat * 5)).off + 4, none⟩ = some (.int .i64 ((rd_T61 l2 x38_2).f4)) := hS_
             refine norm_ (a' := ?_) ?_ ?_
             rotate_left
             ·simp only [putAll, Act.put, List.setIfInBounds_toArray, List.set_cons_zero, List.set_cons_succ]
              rfl
             refine one_ (i := 10) (N := none) #[true,true,true,true,true,true,true,true,true,true,true,false] rfl rfl (one_of HT_.out (by kernel_rfl)) (by decide) (fun K hK => ?_)
             have hs65 : w64.cell? ⟨gb183, 0, none⟩ = some (.int .u8 0) := (blk_cell BK183.out 0).trans rfl
             have hfs65 := blk_frozen BK183.out 0
             have hns65_1 := NB184_183.out
             have hms65_1 := NB183_184.out
             have hs66 : w64.cell? ⟨gb183, 1, none⟩ = some (.string (⟨#[]⟩ : ByteArray)) := (blk_cell BK183.out 1).trans rfl
             have hfs66 := blk_frozen BK183.out 1
             have hns66_1 := NB184_183.out
             have hms66_1 := NB183_184.out
             have hs67 : w64.cell? ⟨gb183, 2, none⟩ = some (.int .i64 0) := (blk_cell BK183.out 2).trans rfl
             have hfs67 := blk_frozen BK183.out 2
             have hns67_1 := NB184_183.out
             have hms67_1 := NB183_184.out
             have hs68 : w64.cell? ⟨gb183, 3, none⟩ = some (.slice none 0 0) := (blk_cell BK183.out 3).trans rfl
             have hfs68 := blk_frozen BK183.out 3
             have hns68_1 := NB184_183.out
             have hms68_1 := NB183_184.out
             have hs69 : w64.cell? ⟨gb183, 4, none⟩ = some (.int .i64 0) := (blk_cell BK183.out 4).trans rfl
             have hfs69 := blk_frozen BK183.out 4
             have hns69_1 := NB184_183.out
             have hms69_1 := NB183_184.out
             refine skip_ (w1 := ?_) (by rfl) rfl ?_ ?_
             rotate_left
             ·go_simp
              rfl
             have q10_3 := Nat.ne_of_lt (Nat.lt_of_lt_of_le (World.block_lt_of_cell? _ _ hw181_0) GW183.out)
             have q11_3 := Nat.ne_of_lt (Nat.lt_of_lt_of_le (World.block_lt_of_cell? _ _ hw181_1) GW183.out)
             have q12_3 := Nat.ne_of_lt (Nat.lt_of_lt_of_le (World.block_lt_of_cell? _ _ hw181_2) GW183.out)
             have q13_3 := Nat.ne_of_lt (Nat.lt_of_lt_of_le (World.block_lt_of_cell? _ _ hw181_3) GW183.out)
             have q14_3 := Nat.ne_of_lt (Nat.lt_of_lt_of_le (World.block_lt_of_cell? _ _ hw181_4) GW183.out)
             have q20_3 := Nat.ne_of_lt (Nat.lt_of_lt_of_le (World.block_lt_of_cell? _ _ hw182_0) GW183.out)
             have q21_3 := Nat.ne_of_lt (Nat.lt_of_lt_of_le (World.block_lt_of_cell? _ _ hw182_1) GW183.out)
             have q22_3 := Nat.ne_of_lt (Nat.lt_of_lt_of_le (World.block_lt_of_cell? _ _ hw182_2) GW183.out)
             have q23_3 := Nat.ne_of_lt (Nat.lt_of_lt_of_le (World.block_lt_of_cell? _ _ hw182_3) GW183.out)
             have q24_3 := Nat.ne_of_lt (Nat.lt_of_lt_of_le (World.block_lt_of_cell? _ _ hw182_4) GW183.out)
             refine hK.out _ _ ⟨((cell_far (p := ⟨gb183, _, none⟩) q10_3 _).trans (((cell_far (p := ⟨gb183, _, none⟩) q10_3 _).trans (((cell_far (p := ⟨gb183, _, none⟩) q10_3 _).trans (((cell_far (p := ⟨gb183, _, none⟩) q10_3 _).trans (((cell_far (p := ⟨gb183, _, none⟩) q10_3 _).trans (hHeld.1)))))))))), ((cell_far (p := ⟨gb183, _, none⟩) q11_3 _).trans (((cell_far (p := ⟨gb183, _, none⟩) q11_3 _).trans (((cell_far (p := ⟨gb183, _, none⟩) q11_3 _).trans (((cell_far (p := ⟨gb183, _, none⟩) q11_3 _).trans (((cell_far (p := ⟨gb183, _, none⟩) q11_3 _).trans (hHeld.2.1)))))))))), ((cell_far (p := ⟨gb183, _, none⟩) q12_3 _).trans (((cell_far (p := ⟨gb183, _, none⟩) q12_3 _).trans (((cell_far (p := ⟨gb183, _, none⟩) q12_3 _).trans (((cell_far (p := ⟨gb183, _, none⟩) q12_3 _).trans (((cell_far (p := ⟨gb183, _, none⟩) q12_3 _).trans (hHeld.2.2.1)))))))))), ((cell_far (p := ⟨gb183, _, none⟩) q13_3 _).trans (((cell_far (p := ⟨gb183, _, none⟩) q13_3 _).trans (((cell_far (p := ⟨gb183, _, none⟩) q13_3 _).trans (((cell_far (p := ⟨gb183, _, none⟩) q13_3 _).trans (((cell_far (p := ⟨gb183, _, none⟩) q13_3 _).trans (hHeld.2.2.2.1)))))))))), ((cell_far (p := ⟨gb183, _, none⟩) q14_3 _).trans (((cell_far (p := ⟨gb183, _, none⟩) q14_3 _).trans (((cell_far (p := ⟨gb183, _, none⟩) q14_3 _).trans (((cell_far (p := ⟨gb183, _, none⟩) q14_3 _).trans (((cell_far (p := ⟨gb183, _, none⟩) q14_3 _).trans (hHeld.2.2.2.2.1)))))))))), ((cell_far (p := ⟨gb183, _, none⟩) q20_3 _).trans (((cell_far (p := ⟨gb183, _, none⟩) q20_3 _).trans (((cell_far (p := ⟨gb183, _, none⟩) q20_3 _).trans (((cell_far (p := ⟨gb183, _, none⟩) q20_3 _).trans (((cell_far (p := ⟨gb183, _, none⟩) q20_3 _).trans (hHeld.2.2.2.2.2.1)))))))))), ((cell_far (p := ⟨gb183, _, none⟩) q21_3 _).trans (((cell_far (p := ⟨gb183, _, none⟩) q21_3 _).trans (((cell_far (p := ⟨gb183, _, none⟩) q21_3 _).trans (((cell_far (p := ⟨gb183, _, none⟩) q21_3 _).trans (((cell_far (p := ⟨gb183, _, none⟩) q21_3 _).trans (hHeld.2.2.2.2.2.2.1)))))))))), ((cell_far (p := ⟨gb183, _, none⟩) q22_3 _).trans (((cell_far (p := ⟨gb183, _, none⟩) q22_3 _).trans (((cell_far (p := ⟨gb183, _, none⟩) q22_3 _).trans (((cell_far (p := ⟨gb183, _, none⟩) q22_3 _).trans (((cell_far (p := ⟨gb183, _, none⟩) q22_3 _).trans (hHeld.2.2.2.2.2.2.2.1)))))))))), ((cell_far (p := ⟨gb183, _, none⟩) q23_3 _).trans (((cell_far (p := ⟨gb183, _, none⟩) q23_3 _).trans (((cell_far (p := ⟨gb183, _, none⟩) q23_3 _).trans (((cell_far (p := ⟨gb183, _, none⟩) q23_3 _).trans (((cell_far (p := ⟨gb183, _, none⟩) q23_3 _).trans (hHeld.2.2.2.2.2.2.2.2.1)))))))))), ((cell_far (p := ⟨gb183, _, none⟩) q24_3 _).trans (((cell_far (p := ⟨gb183, _, none⟩) q24_3 _).trans (((cell_far (p := ⟨gb183, _, none⟩) q24_3 _).trans (((cell_far (p := ⟨gb183, _, none⟩) q24_3 _).trans (((cell_far (p := ⟨gb183, _, none⟩) q24_3 _).trans (hHeld.2.2.2.2.2.2.2.2.2))))))))))⟩ (fun hHeld => ?_)
             clear hK K
             refine one_ (i := 11) (N := none) #[true,true,true,true,true,true,true,true,true,true,true,true] rfl rfl (one_of HT_.out (by kernel_rfl)) (by decide) (fun K hK => ?_)
             have hs70 : w64.cell? ⟨gb184, 0, none⟩ = some (.int .u8 0) := (blk_cell BK184.out 0).trans rfl
             have hfs70 := blk_frozen BK184.out 0
             have hns70_0 := NB183_184.out
             have hms70_0 := NB184_183.out
             have hs71 : w64.cell? ⟨gb184, 1, none⟩ = some (.string (⟨#[]⟩ : ByteArray)) := (blk_cell BK184.out 1).trans rfl
             have hfs71 := blk_frozen BK184.out 1
             have hns71_0 := NB183_184.out
             have hms71_0 := NB184_183.out
             have hs72 : w64.cell? ⟨gb184, 2, none⟩ = some (.int .i64 0) := (blk_cell BK184.out 2).trans rfl
             have hfs72 := blk_frozen BK184.out 2
             have hns72_0 := NB183_184.out
             have hms72_0 := NB184_183.out
             have hs73 : w64.cell? ⟨gb184, 3, none⟩ = some (.slice none 0 0) := (blk_cell BK184.out 3).trans rfl
             have hfs73 := blk_frozen BK184.out 3
             have hns73_0 := NB183_184.out
             have hms73_0 := NB184_183.out
             have hs74 : w64.cell? ⟨gb184, 4, none⟩ = some (.int .i64 0) := (blk_cell BK184.out 4).trans rfl
             have hfs74 := blk_frozen BK184.out 4
             have hns74_0 := NB183_184.out
             have hms74_0 := NB184_183.out
             refine skip_ (w1 := ?_) (by rfl) rfl ?_ ?_
             rotate_left
             ·go_simp
              rfl
             have q10_4 := Nat.ne_of_lt (Nat.lt_of_lt_of_le (World.block_lt_of_cell? _ _ hw181_0) GW184.out)
             have q11_4 := Nat.ne_of_lt (Nat.lt_of_lt_of_le (World.block_lt_of_cell? _ _ hw181_1) GW184.out)
             have q12_4 := Nat.ne_of_lt (Nat.lt_of_lt_of_le (World.block_lt_of_cell? _ _ hw181_2) GW184.out)
             have q13_4 := Nat.ne_of_lt (Nat.lt_of_lt_of_le (World.block_lt_of_cell? _ _ hw181_3) GW184.out)
             have q14_4 := Nat.ne_of_lt (Nat.lt_of_lt_of_le (World.block_lt_of_cell? _ _ hw181_4) GW184.out)
             have q20_4 := Nat.ne_of_lt (Nat.lt_of_lt_of_le (World.block_lt_of_cell? _ _ hw182_0) GW184.out)
             have q21_4 := Nat.ne_of_lt (Nat.lt_of_lt_of_le (World.block_lt_of_cell? _ _ hw182_1) GW184.out)
             have q22_4 := Nat.ne_of_lt (Nat.lt_of_lt_of_le (World.block_lt_of_cell? _ _ hw182_2) GW184.out)
             have q23_4 := Nat.ne_of_lt (Nat.lt_of_lt_of_le (World.block_lt_of_cell? _ _ hw182_3) GW184.out)
             have q24_4 := Nat.ne_of_lt (Nat.lt_of_lt_of_le (World.block_lt_of_cell? _ _ hw182_4) GW184.out)
             refine hK.out _ _ ⟨((cell_far (p := ⟨gb184, _, none⟩) q10_4 _).trans (((cell_far (p := ⟨gb184, _, none⟩) q10_4 _).trans (((cell_far (p := ⟨gb184, _, none⟩) q10_4 _).trans (((cell_far (p := ⟨gb184, _, none⟩) q10_4 _).trans (((cell_far (p := ⟨gb184, _, none⟩) q10_4 _).trans (hHeld.1)))))))))), ((cell_far (p := ⟨gb184, _, none⟩) q11_4 _).trans (((cell_far (p := ⟨gb184, _, none⟩) q11_4 _).trans (((cell_far (p := ⟨gb184, _, none⟩) q11_4 _).trans (((cell_far (p := ⟨gb184, _, none⟩) q11_4 _).trans (((cell_far (p := ⟨gb184, _, none⟩) q11_4 _).trans (hHeld.2.1)))))))))), ((cell_far (p := ⟨gb184, _, none⟩) q12_4 _).trans (((cell_far (p := ⟨gb184, _, none⟩) q12_4 _).trans (((cell_far (p := ⟨gb184, _, none⟩) q12_4 _).trans (((cell_far (p := ⟨gb184, _, none⟩) q12_4 _).trans (((cell_far (p := ⟨gb184, _, none⟩) q12_4 _).trans (hHeld.2.2.1)))))))))), ((cell_far (p := ⟨gb184, _, none⟩) q13_4 _).trans (((cell_far (p := ⟨gb184, _, none⟩) q13_4 _).trans (((cell_far (p := ⟨gb184, _, none⟩) q13_4 _).trans (((cell_far (p := ⟨gb184, _, none⟩) q13_4 _).trans (((cell_far (p := ⟨gb184, _, none⟩) q13_4 _).trans (hHeld.2.2.2.1)))))))))), ((cell_far (p := ⟨gb184, _, none⟩) q14_4 _).trans (((cell_far (p := ⟨gb184, _, none⟩) q14_4 _).trans (((cell_far (p := ⟨gb184, _, none⟩) q14_4 _).trans (((cell_far (p := ⟨gb184, _, none⟩) q14_4 _).trans (((cell_far (p := ⟨gb184, _, none⟩) q14_4 _).trans (hHeld.2.2.2.2.1)))))))))), ((cell_far (p := ⟨gb184, _, none⟩) q20_4 _).trans (((cell_far (p := ⟨gb184, _, none⟩) q20_4 _).trans (((cell_far (p := ⟨gb184, _, none⟩) q20_4 _).trans (((cell_far (p := ⟨gb184, _, none⟩) q20_4 _).trans (((cell_far (p := ⟨gb184, _, none⟩) q20_4 _).trans (hHeld.2.2.2.2.2.1)))))))))), ((cell_far (p := ⟨gb184, _, none⟩) q21_4 _).trans (((cell_far (p := ⟨gb184, _, none⟩) q21_4 _).trans (((cell_far (p := ⟨gb184, _, none⟩) q21_4 _).trans (((cell_far (p := ⟨gb184, _, none⟩) q21_4 _).trans (((cell_far (p := ⟨gb184, _, none⟩) q21_4 _).trans (hHeld.2.2.2.2.2.2.1)))))))))), ((cell_far (p := ⟨gb184, _, none⟩) q22_4 _).trans (((cell_far (p := ⟨gb184, _, none⟩) q22_4 _).trans (((cell_far (p := ⟨gb184, _, none⟩) q22_4 _).trans (((cell_far (p := ⟨gb184, _, none⟩) q22_4 _).trans (((cell_far (p := ⟨gb184, _, none⟩) q22_4 _).trans (hHeld.2.2.2.2.2.2.2.1)))))))))), ((cell_far (p := ⟨gb184, _, none⟩) q23_4 _).trans (((cell_far (p := ⟨gb184, _, none⟩) q23_4 _).trans (((cell_far (p := ⟨gb184, _, none⟩) q23_4 _).trans (((cell_far (p := ⟨gb184, _, none⟩) q23_4 _).trans (((cell_far (p := ⟨gb184, _, none⟩) q23_4 _).trans (hHeld.2.2.2.2.2.2.2.2.1)))))))))), ((cell_far (p := ⟨gb184, _, none⟩) q24_4 _).trans (((cell_far (p := ⟨gb184, _, none⟩) q24_4 _).trans (((cell_far (p := ⟨gb184, _, none⟩) q24_4 _).trans (((cell_far (p := ⟨gb184, _, none⟩) q24_4 _).trans (((cell_far (p := ⟨gb184, _, none⟩) q24_4 _).trans (hHeld.2.2.2.2.2.2.2.2.2))))))))))⟩ (fun hHeld => ?_)
             clear hK K
             refine done_ (done_of HT_.out (by kernel_rfl)) ?_
             have hnb75 := NB183_184.out
             have hnc75 := NB184_183.out
             have hcz76_0 : w64.cell? ⟨gb183, 0, none⟩ = some (.int .u8 0) := (blk_cell BK183.out 0).trans rfl
             have hcz76_1 : w64.cell? ⟨gb183, 1, none⟩ = some (.string (⟨#[]⟩ : ByteArray)) := (blk_cell BK183.out 1).trans rfl
             have hcz76_2 : w64.cell? ⟨gb183, 2, none⟩ = some (.int .i64 0) := (blk_cell BK183.out 2).trans rfl
             have hcz76_3 : w64.cell? ⟨gb183, 3, none⟩ = some (.slice none 0 0) := (blk_cell BK183.out 3).trans rfl
             have hcz76_4 : w64.cell? ⟨gb183, 4, none⟩ = some (.int .i64 0) := (blk_cell BK183.out 4).trans rfl
             have hfz76_0 := blk_frozen BK183.out 0
             have hfz76_1 := blk_frozen BK183.out 1
             have hfz76_2 := blk_frozen BK183.out 2
             have hfz76_3 := blk_frozen BK183.out 3
             have hfz76_4 := blk_frozen BK183.out 4
             have hcz77_0 : w64.cell? ⟨gb184, 0, none⟩ = some (.int .u8 0) := (blk_cell BK184.out 0).trans rfl
             have hcz77_1 : w64.cell? ⟨gb184, 1, none⟩ = some (.string (⟨#[]⟩ : ByteArray)) := (blk_cell BK184.out 1).trans rfl
             have hcz77_2 : w64.cell? ⟨gb184, 2, none⟩ = some (.int .i64 0) := (blk_cell BK184.out 2).trans rfl
             have hcz77_3 : w64.cell? ⟨gb184, 3, none⟩ = some (.slice none 0 0) := (blk_cell BK184.out 3).trans rfl
             have hcz77_4 : w64.cell? ⟨gb184, 4, none⟩ = some (.int .i64 0) := (blk_cell BK184.out 4).trans rfl
             have hfz77_0 := blk_frozen BK184.out 0
             have hfz77_1 := blk_frozen BK184.out 1
             have hfz77_2 := blk_frozen BK184.out 2
             have hfz77_3 := blk_frozen BK184.out 3
             have hfz77_4 := blk_frozen BK184.out 4
             try go_wp2
             go_ret
             exact ⟨by first | rfl | (simp [errW_none, errW_some] <;> rfl) | (simp [*, errW_none, errW_some] <;> rfl), by repeat (first | (with_reducible first | exact HB.out | apply below_alloc | apply pw_below_drewN | apply below_drew1 | refine below_set ?_ GE183.out | refine below_set ?_ GE184.out) | exact HB.out)⟩
           ·rw [if_neg c24] at H
            have c24b0 : (((rd_T61 l0 x38_2).f1).toList == ((rd_T61 l2 x38_2).f1).toList) = false := beq_eq_false_iff_ne.mpr c24
            have c24b1 : (((rd_T61 l0 x38_2).f1).toList != ((rd_T61 l2 x38_2).f1).toList) = true := bne_iff_ne.mpr c24
            obtain rfl := Option.some.inj H
            try go_wp2
            have n0_ := Aside0.mk (below_drew1 HB.out)
            clear HB
            have HB := n0_
            clear n0_
            have p181 : 0 ≤ (x38_2 : Int) := of_decide_eq_true (by first | (with_reducible assumption) | assumption)
            have q181 : x38_2 < (l0.length : Int) := of_decide_eq_true (by first | (with_reducible assumption) | assumption)
            obtain ⟨ad181, A181_3, c181_3, e181, hx181_0, hx181_1, hx181_2, hx181_3, hx181_4, hl181_3, hi181_3⟩ := at_T61 HR0.out x38_2 p181 q181
            have hw181_4 := hx181_4
            have hw181_3 := hx181_3
            have hw181_2 := hx181_2
            have hw181_1 := hx181_1
            have hw181_0 := hx181_0
            cases e181
            replace hx181_0 := (HB.out.cell (World.block_lt_of_cell? w _ hx181_0)).trans hx181_0
            replace hx181_1 := (HB.out.cell (World.block_lt_of_cell? w _ hx181_1)).trans hx181_1
            replace hx181_2 := (HB.out.cell (World.block_lt_of_cell? w _ hx181_2)).trans hx181_2
            replace hx181_3 := (HB.out.cell (World.block_lt_of_cell? w _ hx181_3)).trans hx181_3
            replace hx181_4 := (HB.out.cell (World.block_lt_of_cell? w _ hx181_4)).trans hx181_4
            have HR181_3 := Aside0.mk hi181_3
            have HC181_3 := Aside0.mk hl181_3
            clear hi181_3 hl181_3
            replace p181 := eq_true p181
            replace q181 := eq_true q181
            have p182 : 0 ≤ (x38_2 : Int) := of_decide_eq_true (by first | (with_reducible assumption) | assumption)
            have q182 : x38_2 < (l2.length : Int) := of_decide_eq_true (by first | (with_reducible assumption) | assumption)
            obtain ⟨ad182, A182_3, c182_3, e182, hx182_0, hx182_1, hx182_2, hx182_3, hx182_4, hl182_3, hi182_3⟩ := at_T61 HR2.out x38_2 p182 q182
            have hw182_4 := hx182_4
            have hw182_3 := hx182_3
            have hw182_2 := hx182_2
            have hw182_1 := hx182_1
            have hw182_0 := hx182_0
            cases e182
            replace hx182_0 := (HB.out.cell (World.block_lt_of_cell? w _ hx182_0)).trans hx182_0
            replace hx182_1 := (HB.out.cell (World.block_lt_of_cell? w _ hx182_1)).trans hx182_1
            replace hx182_2 := (HB.out.cell (World.block_lt_of_cell? w _ hx182_2)).trans hx182_2
            replace hx182_3 := (HB.out.cell (World.block_lt_of_cell? w _ hx182_3)).trans hx182_3
            replace hx182_4 := (HB.out.cell (World.block_lt_of_cell? w _ hx182_4)).trans hx182_4
            have HR182_3 := Aside0.mk hi182_3
            have HC182_3 := Aside0.mk hl182_3
            clear hi182_3 hl182_3
            replace p182 := eq_true p182
            replace q182 := eq_true q182
            refine start_ (n := 12) (S := fun w' => w'.cell? (ad181.add ((x38_2).toNat * 5)) = some (.int .u8 ((rd_T61 l0 x38_2).f0)) ∧ w'.cell? ⟨(ad181.add ((x38_2).toNat * 5)).block, (ad181.add ((x38_2).toNat * 5)).off + 1, none⟩ = some (.string ((rd_T61 l0 x38_2).f1)) ∧ w'.cell? ⟨(ad181.add ((x38_2).toNat * 5)).block, (ad181.add ((x38_2).toNat * 5)).off + 2, none⟩ = some (.int .i64 ((rd_T61 l0 x38_2).f2)) ∧ w'.cell? ⟨(ad181.add ((x38_2).toNat * 5)).block, (ad181.add ((x38_2).toNat * 5)).off + 3, none⟩ = some (.slice A181_3 ((rd_T61 l0 x38_2).f3).length c181_3) ∧ w'.cell? ⟨(ad181.add ((x38_2).toNat * 5)).block, (ad181.add ((x38_2).toNat * 5)).off + 4, none⟩ = some (.int .i64 ((rd_T61 l0 x38_2).f4)) ∧ w'.cell? (ad182.add ((x38_2).toNat * 5)) = some (.int .u8 ((rd_T61 l2 x38_2).f0)) ∧ w'.cell? ⟨(ad182.add ((x38_2).toNat * 5)).block, (ad182.add ((x38_2).toNat * 5)).off + 1, none⟩ = some (.string ((rd_T61 l2 x38_2).f1)) ∧ w'.cell? ⟨(ad182.add ((x38_2).toNat * 5)).block, (ad182.add ((x38_2).toNat * 5)).off + 2, none⟩ = some (.int .i64 ((rd_T61 l2 x38_2).f2)) ∧ w'.cell? ⟨(ad182.add ((x38_2).toNat * 5)).block, (ad182.add ((x38_2).toNat * 5)).off + 3, none⟩ = some (.slice A182_3 ((rd_T61 l2 x38_2).f3).length c182_3) ∧ w'.cell? ⟨(ad182.add ((x38_2).toNat * 5)).block, (ad182.add ((x38_2).toNat * 5)).off + 4, none⟩ = some (.int .i64 ((rd_T61 l2 x38_2).f4))) (ds := []) #[false,false,false,false,false,false,false,false,false,false,false,false] (by kernel_rfl) rfl rfl ⟨((HB.out.cell (World.block_lt_of_cell? w _ hw181_0)).trans hw181_0), ((HB.out.cell (World.block_lt_of_cell? w _ hw181_1)).trans hw181_1), ((HB.out.cell (World.block_lt_of_cell? w _ hw181_2)).trans hw181_2), ((HB.out.cell (World.block_lt_of_cell? w _ hw181_3)).trans hw181_3), ((HB.out.cell (World.block_lt_of_cell? w _ hw181_4)).trans hw181_4), ((HB.out.cell (World.block_lt_of_cell? w _ hw182_0)).trans hw182_0), ((HB.out.cell (World.block_lt_of_cell? w _ hw182_1)).trans hw182_1), ((HB.out.cell (World.block_lt_of_cell? w _ hw182_2)).trans hw182_2), ((HB.out.cell (World.block_lt_of_cell? w _ hw182_3)).trans hw182_3), ((HB.out.cell (World.block_lt_of_cell? w _ hw182_4)).trans hw182_4)⟩ (fun hHeld => ?_); refine with_tabW show_Same.tab6 show_Same.bits6 (fun HT_ HW_ => ?_)
            generalize wr.drew = w78 at HB HR181_3 HR182_3 hx181_0 hx181_1 hx181_2 hx181_3 hx181_4 hx182_0 hx182_1 hx182_2 hx182_3 hx182_4 hHeld ⊢
            refine pure_ (i := 0) (N := some 41) (v := ?_) (a' := ?_) #[true,false,false,false,false,false,false,false,false,false,false,false] rfl rfl (any_of HT_.out (by kernel_rfl)) (fun _ _ _ h => h) (Or.inl ⟨by rfl, ?_⟩) ?_ ?_
            rotate_left
            ·intro w'
             go_simp
             with_reducible rfl
            rotate_left
            ·simp only [Act.put, List.setIfInBounds_toArray, List.set_cons_zero, List.set_cons_succ, i64_w, i32_w]
             rfl
            refine pure_ (i := 1) (N := some 42) (v := ?_) (a' := ?_) #[true,true,false,false,false,false,false,false,false,false,false,false] rfl rfl (any_of HT_.out (by kernel_rfl)) (fun _ _ _ h => h) (Or.inl ⟨by rfl, ?_⟩) ?_ ?_
            rotate_left
            ·intro w'
             go_simp
             with_reducible rfl
            rotate_left
            ·simp only [Act.put, List.setIfInBounds_toArray, List.set_cons_zero, List.set_cons_succ, i64_w, i32_w]
             rfl
            refine pure_ (i := 2) (N := some 43) (v := ?_) (a' := ?_) #[true,true,true,false,false,false,false,false,false,false,false,false] rfl rfl (any_of HT_.out (by kernel_rfl)) (fun _ _ _ h => h) (Or.inl ⟨by rfl, ?_⟩) ?_ ?_
            rotate_left
            ·intro w'
             go_simp
             with_reducible rfl
            rotate_left
            ·simp only [Act.put, List.setIfInBounds_toArray, List.set_cons_zero, List.set_cons_succ, i64_w, i32_w]
             rfl
            refine pure_ (i := 4) (N := some 45) (v := ?_) (a' := ?_) #[true,true,true,false,true,false,false,false,false,false,false,false] rfl rfl (any_of HT_.out (by kernel_rfl)) (fun _ _ _ h => h) (Or.inl ⟨by rfl, ?_⟩) ?_ ?_
            rotate_left
            ·intro w'
             go_simp
             with_reducible rfl
            rotate_left
            ·simp only [Act.put, List.setIfInBounds_toArray, List.set_cons_zero, List.set_cons_succ, i64_w, i32_w]
             rfl
            refine pure_ (i := 5) (N := some 46) (v := ?_) (a' := ?_) #[true,true,true,false,true,true,false,false,false,false,false,false] rfl rfl (any_of HT_.out (by kernel_rfl)) (fun _ _ _ h => h) (Or.inl ⟨by rfl, ?_⟩) ?_ ?_
            rotate_left
            ·intro w'
             go_simp
             with_reducible rfl
            rotate_left
            ·simp only [Act.put, List.setIfInBounds_toArray, List.set_cons_zero, List.set_cons_succ, i64_w, i32_w]
             rfl
            refine pure_ (i := 6) (N := some 47) (v := ?_) (a' := ?_) #[true,true,true,false,true,true,true,false,false,false,false,false] rfl rfl (any_of HT_.out (by kernel_rfl)) (fun _ _ _ h => h) (Or.inl ⟨by rfl, ?_⟩) ?_ ?_
            rotate_left
            ·intro w'
             go_simp
             with_reducible rfl
            rotate_left
            ·simp only [Act.put, List.setIfInBounds_toArray, List.set_cons_zero, List.set_cons_succ, i64_w, i32_w]
             rfl
            refine take_ (i := 3) (N := some 44) (v := ?_) (a' := ?_) #[true,true,true,true,true,true,true,false,false,false,false,false] rfl rfl (take_ofW HT_.out HW_.out (by kernel_rfl)) (fun _ _ _ h => h) (Or.inl ⟨by rfl, ?_⟩) hHeld ?_ ?_
            rotate_left
            ·rintro w' ⟨s0, s1, s2, s3, s4, s5, s6, s7, s8, s9⟩
             go_simp
             with_reducible rfl
            rotate_left
            ·simp only [Act.put, List.setIfInBounds_toArray, List.set_cons_zero, List.set_cons_succ, i64_w, i32_w]
             rfl
            refine take_ (i := 7) (N := some 48) (v := ?_) (a' := ?_) #[true,true,true,true,true,true,true,true,false,false,false,false] rfl rfl (take_ofW HT_.out HW_.out (by kernel_rfl)) (fun _ _ _ h => h) (Or.inl ⟨by rfl, ?_⟩) hHeld ?_ ?_
            rotate_left
            ·rintro w' ⟨s0, s1, s2, s3, s4, s5, s6, s7, s8, s9⟩
             go_simp
             with_reducible rfl
            rotate_left
            ·simp only [Act.put, List.setIfInBounds_toArray, List.set_cons_zero, List.set_cons_succ, i64_w, i32_w]
             rfl
            refine join_ (σ := Nat × Nat) 2 #[true,true,true,true,true,true,true,true,true,true,false,false] (fun s_ => [(10, .pointer (some ⟨s_.1, 0, none⟩)), (11, .pointer (some ⟨s_.2, 0, none⟩))]) (fun s_ w' => (w'.cell? (ad181.add ((x38_2).toNat * 5)) = some (.int .u8 ((rd_T61 l0 x38_2).f0)) ∧ w'.cell? ⟨(ad181.add ((x38_2).toNat * 5)).block, (ad181.add ((x38_2).toNat * 5)).off + 1, none⟩ = some (.string ((rd_T61 l0 x38_2).f1)) ∧ w'.cell? ⟨(ad181.add ((x38_2).toNat * 5)).block, (ad181.add ((x38_2).toNat * 5)).off + 2, none⟩ = some (.int .i64 ((rd_T61 l0 x38_2).f2)) ∧ w'.cell? ⟨(ad181.add ((x38_2).toNat * 5)).block, (ad181.add ((x38_2).toNat * 5)).off + 3, none⟩ = some (.slice A181_3 ((rd_T61 l0 x38_2).f3).length c181_3) ∧ w'.cell? ⟨(ad181.add ((x38_2).toNat * 5)).block, (ad181.add ((x38_2).toNat * 5)).off + 4, none⟩ = some (.int .i64 ((rd_T61 l0 x38_2).f4)) ∧ w'.cell? (ad182.add ((x38_2).toNat * 5)) = some (.int .u8 ((rd_T61 l2 x38_2).f0)) ∧ w'.cell? ⟨(ad182.add ((x38_2).toNat * 5)).block, (ad182.add ((x38_2).toNat * 5)).off + 1, none⟩ = some (.string ((rd_T61 l2 x38_2).f1)) ∧ w'.cell? ⟨(ad182.add ((x38_2).toNat * 5)).block, (ad182.add ((x38_2).toNat * 5)).off + 2, none⟩ = some (.int .i64 ((rd_T61 l2 x38_2).f2)) ∧ w'.cell? ⟨(ad182.add ((x38_2).toNat * 5)).block, (ad182.add ((x38_2).toNat * 5)).off + 3, none⟩ = some (.slice A182_3 ((rd_T61 l2 x38_2).f3).length c182_3) ∧ w'.cell? ⟨(ad182.add ((x38_2).toNat * 5)).block, (ad182.add ((x38_2).toNat * 5)).off + 4, none⟩ = some (.int .i64 ((rd_T61 l2 x38_2).f4))) ∧ (w'.heap[s_.1]? = some (.cells #[.int .u8 0, .string (⟨#[]⟩ : ByteArray), .int .i64 0, .slice none 0 0, .int .i64 0] 61 (0, 0))) ∧ (w'.heap[s_.2]? = some (.cells #[.int .u8 0, .string (⟨#[]⟩ : ByteArray), .int .i64 0, .slice none 0 0, .int .i64 0] 61 (0, 0))) ∧ (w.heap.size ≤ s_.1) ∧ (w.heap.size ≤ s_.1) ∧ (s_.2 ≠ s_.1) ∧ (s_.1 ≠ s_.2) ∧ (w.heap.size ≤ s_.2) ∧ (w.heap.size ≤ s_.2) ∧ (Below w.heap.size w w')) ?_ ?_
            rotate_left
            ·intro hCont
             refine two_ (i := 8) (j := 9) (Ni := some 10) (Nj := some 11) #[true,true,true,true,true,true,true,true,true,false,false,false] #[true,true,true,true,true,true,true,true,false,true,false,false] rfl rfl rfl rfl (two_of HT_.out (by kernel_rfl)) (by decide) (by decide) (fun K hK => ?_) (fun K hK => ?_)
             ·skip
              refine box_step ?hg (N := 10) ?hd (cs := #[.int .u8 0, .string (⟨#[]⟩ : ByteArray), .int .i64 0, .slice none 0 0, .int .i64 0]) (t := 61) ?hr ?_; (case hd => rfl); (case hg => rfl); (case hr => first | (go_simp; done) | (go_simp; rfl))
              intro gb183 hg w79 hbox hb
              have n0_ := Aside0.mk (below_step (by repeat (first | (with_reducible first | exact HB.out | apply below_alloc | apply pw_below_drewN | apply below_drew1) | exact HB.out | exact Below.refl _ _)) hb)
              have n1_ := Aside0.mk (hbox)
              have n2_ := Aside0.mk ((by rw [hg]; exact (below_size (by repeat (first | (with_reducible first | exact HB.out | apply below_alloc | apply pw_below_drewN | apply below_drew1) | exact HB.out | exact Below.refl _ _))) : w.heap.size ≤ gb183))
              have n3_ := Aside0.mk ((by rw [hg]; exact (below_size (by repeat (first | (with_reducible first | exact HB.out | apply below_alloc | apply pw_below_drewN | apply below_drew1) | exact HB.out | exact Below.refl _ _))) : w.heap.size ≤ gb183))
              clear HB
              have HB := n0_
              have BK183 := n1_
              have GW183 := n2_
              have GE183 := n3_
              clear n0_ n1_ n2_ n3_
              clear hb hbox hg
              refine hK.out _ _ ⟨((HB.out.cell (World.block_lt_of_cell? w _ hw181_0)).trans hw181_0), ((HB.out.cell (World.block_lt_of_cell? w _ hw181_1)).trans hw181_1), ((HB.out.cell (World.block_lt_of_cell? w _ hw181_2)).trans hw181_2), ((HB.out.cell (World.block_lt_of_cell? w _ hw181_3)).trans hw181_3), ((HB.out.cell (World.block_lt_of_cell? w _ hw181_4)).trans hw181_4), ((HB.out.cell (World.block_lt_of_cell? w _ hw182_0)).trans hw182_0), ((HB.out.cell (World.block_lt_of_cell? w _ hw182_1)).trans hw182_1), ((HB.out.cell (World.block_lt_of_cell? w _ hw182_2)).trans hw182_2), ((HB.out.cell (World.block_lt_of_cell? w _ hw182_3)).trans hw182_3), ((HB.out.cell (World.block_lt_of_cell? w _ hw182_4)).trans hw182_4)⟩ (fun hHeld => ?_)
              clear hK K
              refine norm_ (a' := ?_) ?_ ?_
              rotate_left
              ·show Act.put _ (some 10) _ = _
               simp only [Act.put, List.setIfInBounds_toArray, List.set_cons_zero, List.set_cons_succ, i64_w, i32_w]
               rfl
              refine one_ (i := 9) (N := some 11) #[true,true,true,true,true,true,true,true,true,true,false,false] rfl rfl (one_of HT_.out (by kernel_rfl)) (by decide) (fun K hK => ?_)
              refine box_step ?hg (N := 11) ?hd (cs := #[.int .u8 0, .string (⟨#[]⟩ : ByteArray), .int .i64 0, .slice none 0 0, .int .i64 0]) (t := 61) ?hr ?_; (case hd => rfl); (case hg => rfl); (case hr => first | (go_simp; done) | (go_simp; rfl))
              intro gb184 hg w80 hbox hb
              have n0_ := Aside0.mk (blk_below (g := gb183) (o := .cells #[.int .u8 0, .string (⟨#[]⟩ : ByteArray), .int .i64 0, .slice none 0 0, .int .i64 0] 61 (0, 0)) (by (with_reducible repeat (first | refine blk_drewN ?_ _ | refine blk_drew ?_ | refine blk_alloc ?_ _)); exact BK183.out) hb)
              have n1_ := Aside0.mk (below_step (by repeat (first | (with_reducible first | exact HB.out | apply below_alloc | apply pw_below_drewN | apply below_drew1 | refine below_set ?_ GE183.out) | exact HB.out)) hb)
              have n2_ := Aside0.mk (hbox)
              have n3_ := Aside0.mk ((by rw [hg]; exact (below_size (by repeat (first | (with_reducible first | exact HB.out | apply below_alloc | apply pw_below_drewN | apply below_drew1 | refine below_set ?_ GE183.out) | exact HB.out))) : w.heap.size ≤ gb184))
              have n4_ := Aside0.mk ((by rw [hg]; exact (below_size (by repeat (first | (with_reducible first | exact HB.out | apply below_alloc | apply pw_below_drewN | apply below_drew1 | refine below_set ?_ GE183.out) | exact HB.out))) : w.heap.size ≤ gb184))
              have n5_ := Aside0.mk ((by rw [hg]; exact Nat.ne_of_lt (blk_lt (g := gb183) (o := .cells #[.int .u8 0, .string (⟨#[]⟩ : ByteArray), .int .i64 0, .slice none 0 0, .int .i64 0] 61 (0, 0)) (by (with_reducible repeat (first | refine blk_drewN ?_ _ | refine blk_drew ?_ | refine blk_alloc ?_ _)); exact BK183.out)) : gb183 ≠ gb184))
              have n6_ := Aside0.mk ((by rw [hg]; exact Nat.ne_of_gt (blk_lt (g := gb183) (o := .cells #[.int .u8 0, .string (⟨#[]⟩ : ByteArray), .int .i64 0, .slice none 0 0, .int .i64 0] 61 (0, 0)) (by (with_reducible repeat (first | refine blk_drewN ?_ _ | refine blk_drew ?_ | refine blk_alloc ?_ _)); exact BK183.out)) : gb184 ≠ gb183))
              clear BK183
              clear HB
              have BK183 := n0_
              have HB := n1_
              have BK184 := n2_
              have GW184 := n3_
              have GE184 := n4_
              have NB183_184 := n5_
              have NB184_183 := n6_
              clear n0_ n1_ n2_ n3_ n4_ n5_ n6_
              clear hb hbox hg
              refine hK.out _ _ ⟨((HB.out.cell (World.block_lt_of_cell? w _ hw181_0)).trans hw181_0), ((HB.out.cell (World.block_lt_of_cell? w _ hw181_1)).trans hw181_1), ((HB.out.cell (World.block_lt_of_cell? w _ hw181_2)).trans hw181_2), ((HB.out.cell (World.block_lt_of_cell? w _ hw181_3)).trans hw181_3), ((HB.out.cell (World.block_lt_of_cell? w _ hw181_4)).trans hw181_4), ((HB.out.cell (World.block_lt_of_cell? w _ hw182_0)).trans hw182_0), ((HB.out.cell (World.block_lt_of_cell? w _ hw182_1)).trans hw182_1), ((HB.out.cell (World.block_lt_of_cell? w _ hw182_2)).trans hw182_2), ((HB.out.cell (World.block_lt_of_cell? w _ hw182_3)).trans hw182_3), ((HB.out.cell (World.block_lt_of_cell? w _ hw182_4)).trans hw182_4)⟩ (fun hHeld => ?_)
              clear hK K
              refine norm_ (a' := ?_) ?_ ?_
              rotate_left
              ·show Act.put _ (some 11) _ = _
               simp only [Act.put, List.setIfInBounds_toArray, List.set_cons_zero, List.set_cons_succ, i64_w, i32_w]
               rfl
              exact norm_ (by simp only [putAll, Act.put, List.setIfInBounds_toArray, List.set_cons_zero, List.set_cons_succ]) (hCont (gb183, gb184) _ ⟨hHeld, (by (with_reducible repeat (first | refine blk_drewN ?_ _ | refine blk_drew ?_ | refine blk_alloc ?_ _)); exact BK183.out), (by (with_reducible repeat (first | refine blk_drewN ?_ _ | refine blk_drew ?_ | refine blk_alloc ?_ _)); exact BK184.out), GW183.out, GE183.out, NB184_183.out, NB183_184.out, GW184.out, GE184.out, (by repeat (first | (with_reducible first | exact HB.out | apply below_alloc | apply pw_below_drewN | apply below_drew1 | refine below_set ?_ GE183.out | refine below_set ?_ GE184.out) | exact HB.out))⟩)
             ·skip
              refine box_step ?hg (N := 11) ?hd (cs := #[.int .u8 0, .string (⟨#[]⟩ : ByteArray), .int .i64 0, .slice none 0 0, .int .i64 0]) (t := 61) ?hr ?_; (case hd => rfl); (case hg => rfl); (case hr => first | (go_simp; done) | (go_simp; rfl))
              intro gb184 hg w79 hbox hb
              have n0_ := Aside0.mk (below_step (by repeat (first | (with_reducible first | exact HB.out | apply below_alloc | apply pw_below_drewN | apply below_drew1) | exact HB.out | exact Below.refl _ _)) hb)
              have n1_ := Aside0.mk (hbox)
              have n2_ := Aside0.mk ((by rw [hg]; exact (below_size (by repeat (first | (with_reducible first | exact HB.out | apply below_alloc | apply pw_below_drewN | apply below_drew1) | exact HB.out | exact Below.refl _ _))) : w.heap.size ≤ gb184))
              have n3_ := Aside0.mk ((by rw [hg]; exact (below_size (by repeat (first | (with_reducible first | exact HB.out | apply below_alloc | apply pw_below_drewN | apply below_drew1) | exact HB.out | exact Below.refl _ _))) : w.heap.size ≤ gb184))
              clear HB
              have HB := n0_
              have BK184 := n1_
              have GW184 := n2_
              have GE184 := n3_
              clear n0_ n1_ n2_ n3_
              clear hb hbox hg
              refine hK.out _ _ ⟨((HB.out.cell (World.block_lt_of_cell? w _ hw181_0)).trans hw181_0), ((HB.out.cell (World.block_lt_of_cell? w _ hw181_1)).trans hw181_1), ((HB.out.cell (World.block_lt_of_cell? w _ hw181_2)).trans hw181_2), ((HB.out.cell (World.block_lt_of_cell? w _ hw181_3)).trans hw181_3), ((HB.out.cell (World.block_lt_of_cell? w _ hw181_4)).trans hw181_4), ((HB.out.cell (World.block_lt_of_cell? w _ hw182_0)).trans hw182_0), ((HB.out.cell (World.block_lt_of_cell? w _ hw182_1)).trans hw182_1), ((HB.out.cell (World.block_lt_of_cell? w _ hw182_2)).trans hw182_2), ((HB.out.cell (World.block_lt_of_cell? w _ hw182_3)).trans hw182_3), ((HB.out.cell (World.block_lt_of_cell? w _ hw182_4)).trans hw182_4)⟩ (fun hHeld => ?_)
              clear hK K
              refine norm_ (a' := ?_) ?_ ?_
              rotate_left
              ·show Act.put _ (some 11) _ = _
               simp only [Act.put, List.setIfInBounds_toArray, List.set_cons_zero, List.set_cons_succ, i64_w, i32_w]
               rfl
              refine one_ (i := 8) (N := some 10) #[true,true,true,true,true,true,true,true,true,true,false,false] rfl rfl (one_of HT_.out (by kernel_rfl)) (by decide) (fun K hK => ?_)
              refine box_step ?hg (N := 10) ?hd (cs := #[.int .u8 0, .string (⟨#[]⟩ : ByteArray), .int .i64 0, .slice none 0 0, .int .i64 0]) (t := 61) ?hr ?_; (case hd => rfl); (case hg => rfl); (case hr => first | (go_simp; done) | (go_simp; rfl))
              intro gb183 hg w80 hbox hb
              have n0_ := Aside0.mk (blk_below (g := gb184) (o := .cells #[.int .u8 0, .string (⟨#[]⟩ : ByteArray), .int .i64 0, .slice none 0 0, .int .i64 0] 61 (0, 0)) (by (with_reducible repeat (first | refine blk_drewN ?_ _ | refine blk_drew ?_ | refine blk_alloc ?_ _)); exact BK184.out) hb)
              have n1_ := Aside0.mk (below_step (by repeat (first | (with_reducible first | exact HB.out | apply below_alloc | apply pw_below_drewN | apply below_drew1 | refine below_set ?_ GE184.out) | exact HB.out)) hb)
              have n2_ := Aside0.mk (hbox)
              have n3_ := Aside0.mk ((by rw [hg]; exact (below_size (by repeat (first | (with_reducible first | exact HB.out | apply below_alloc | apply pw_below_drewN | apply below_drew1 | refine below_set ?_ GE184.out) | exact HB.out))) : w.heap.size ≤ gb183))
              have n4_ := Aside0.mk ((by rw [hg]; exact (below_size (by repeat (first | (with_reducible first | exact HB.out | apply below_alloc | apply pw_below_drewN | apply below_drew1 | refine below_set ?_ GE184.out) | exact HB.out))) : w.heap.size ≤ gb183))
              have n5_ := Aside0.mk ((by rw [hg]; exact Nat.ne_of_lt (blk_lt (g := gb184) (o := .cells #[.int .u8 0, .string (⟨#[]⟩ : ByteArray), .int .i64 0, .slice none 0 0, .int .i64 0] 61 (0, 0)) (by (with_reducible repeat (first | refine blk_drewN ?_ _ | refine blk_drew ?_ | refine blk_alloc ?_ _)); exact BK184.out)) : gb184 ≠ gb183))
              have n6_ := Aside0.mk ((by rw [hg]; exact Nat.ne_of_gt (blk_lt (g := gb184) (o := .cells #[.int .u8 0, .string (⟨#[]⟩ : ByteArray), .int .i64 0, .slice none 0 0, .int .i64 0] 61 (0, 0)) (by (with_reducible repeat (first | refine blk_drewN ?_ _ | refine blk_drew ?_ | refine blk_alloc ?_ _)); exact BK184.out)) : gb183 ≠ gb184))
              clear BK184
              clear HB
              have BK184 := n0_
              have HB := n1_
              have BK183 := n2_
              have GW183 := n3_
              have GE183 := n4_
              have NB184_183 := n5_
              have NB183_184 := n6_
              clear n0_ n1_ n2_ n3_ n4_ n5_ n6_
              clear hb hbox hg
              refine hK.out _ _ ⟨((HB.out.cell (World.block_lt_of_cell? w _ hw181_0)).trans hw181_0), ((HB.out.cell (World.block_lt_of_cell? w _ hw181_1)).trans hw181_1), ((HB.out.cell (World.block_lt_of_cell? w _ hw181_2)).trans hw181_2), ((HB.out.cell (World.block_lt_of_cell? w _ hw181_3)).trans hw181_3), ((HB.out.cell (World.block_lt_of_cell? w _ hw181_4)).trans hw181_4), ((HB.out.cell (World.block_lt_of_cell? w _ hw182_0)).trans hw182_0), ((HB.out.cell (World.block_lt_of_cell? w _ hw182_1)).trans hw182_1), ((HB.out.cell (World.block_lt_of_cell? w _ hw182_2)).trans hw182_2), ((HB.out.cell (World.block_lt_of_cell? w _ hw182_3)).trans hw182_3), ((HB.out.cell (World.block_lt_of_cell? w _ hw182_4)).trans hw182_4)⟩ (fun hHeld => ?_)
              clear hK K
              refine norm_ (a' := ?_) ?_ ?_
              rotate_left
              ·show Act.put _ (some 10) _ = _
               simp only [Act.put, List.setIfInBounds_toArray, List.set_cons_zero, List.set_cons_succ, i64_w, i32_w]
               rfl
              exact norm_ (by simp only [putAll, Act.put, List.setIfInBounds_toArray, List.set_cons_zero, List.set_cons_succ]) (hCont (gb183, gb184) _ ⟨hHeld, (by (with_reducible repeat (first | refine blk_drewN ?_ _ | refine blk_drew ?_ | refine blk_alloc ?_ _)); exact BK183.out), (by (with_reducible repeat (first | refine blk_drewN ?_ _ | refine blk_drew ?_ | refine blk_alloc ?_ _)); exact BK184.out), GW183.out, GE183.out, NB184_183.out, NB183_184.out, GW184.out, GE184.out, (by repeat (first | (with_reducible first | exact HB.out | apply below_alloc | apply pw_below_drewN | apply below_drew1 | refine below_set ?_ GE184.out | refine below_set ?_ GE183.out) | exact HB.out))⟩)
            rintro ⟨gb183, gb184⟩ w81 ⟨hS_, h0_, h1_, h2_, h3_, h4_, h5_, h6_, h7_, h8_⟩
            have n0_ : Aside0 (w81.heap[gb183]? = some (.cells #[.int .u8 0, .string (⟨#[]⟩ : ByteArray), .int .i64 0, .slice none 0 0, .int .i64 0] 61 (0, 0))) := ⟨h0_⟩
            have n1_ : Aside0 (w81.heap[gb184]? = some (.cells #[.int .u8 0, .string (⟨#[]⟩ : ByteArray), .int .i64 0, .slice none 0 0, .int .i64 0] 61 (0, 0))) := ⟨h1_⟩
            have n2_ : Aside0 (w.heap.size ≤ gb183) := ⟨h2_⟩
            have n3_ : Aside0 (w.heap.size ≤ gb183) := ⟨h3_⟩
            have n4_ : Aside0 (gb184 ≠ gb183) := ⟨h4_⟩
            have n5_ : Aside0 (gb183 ≠ gb184) := ⟨h5_⟩
            have n6_ : Aside0 (w.heap.size ≤ gb184) := ⟨h6_⟩
            have n7_ : Aside0 (w.heap.size ≤ gb184) := ⟨h7_⟩
            have n8_ : Aside0 (Below w.heap.size w w81) := ⟨h8_⟩
            clear HB
            clear h0_ h1_ h2_ h3_ h4_ h5_ h6_ h7_ h8_
            have BK183 := n0_
            have BK184 := n1_
            have GW183 := n2_
            have GE183 := n3_
            have NB184_183 := n4_
            have NB183_184 := n5_
            have GW184 := n6_
            have GE184 := n7_
            have HB := n8_
            clear n0_ n1_ n2_ n3_ n4_ n5_ n6_ n7_ n8_
            have hHeld : w81.cell? (ad181.add ((x38_2).toNat * 5)) = some (.int .u8 ((rd_T61 l0 x38_2).f0)) ∧ w81.cell? ⟨(ad181.add ((x38_2).toNat * 5)).block, (ad181.add ((x38_2).toNat * 5)).off + 1, none⟩ = some (.string ((rd_T61 l0 x38_2).f1)) ∧ w81.cell? ⟨(ad181.add ((x38_2).toNat * 5)).block, (ad181.add ((x38_2).toNat * 5)).off + 2, none⟩ = some (.int .i64 ((rd_T61 l0 x38_2).f2)) ∧ w81.cell? ⟨(ad181.add ((x38_2).toNat * 5)).block, (ad181.add ((x38_2).toNat * 5)).off + 3, none⟩ = some (.slice A181_3 ((rd_T61 l0 x38_2).f3).length c181_3) ∧ w81.cell? ⟨(ad181.add ((x38_2).toNat * 5)).block, (ad181.add ((x38_2).toNat * 5)).off + 4, none⟩ = some (.int .i64 ((rd_T61 l0 x38_2).f4)) ∧ w81.cell? (ad182.add ((x38_2).toNat * 5)) = some (.int .u8 ((rd_T61 l2 x38_2).f0)) ∧ w81.cell? ⟨(ad182.add ((x38_2).toNat * 5)).block, (ad182.add ((x38_2).toNat * 5)).off + 1, none⟩ = some (.string ((rd_T61 l2 x38_2).f1)) ∧ w81.cell? ⟨(ad182.add ((x38_2).toNat * 5)).block, (ad182.add ((x38_2).toNat * 5)).off + 2, none⟩ = some (.int .i64 ((rd_T61 l2 x38_2).f2)) ∧ w81.cell? ⟨(ad182.add ((x38_2).toNat * 5)).block, (ad182.add ((x38_2).toNat * 5)).off + 3, none⟩ = some (.slice A182_3 ((rd_T61 l2 x38_2).f3).length c182_3) ∧ w81.cell? ⟨(ad182.add ((x38_2).toNat * 5)).block, (ad182.add ((x38_2).toNat * 5)).off + 4, none⟩ = some (.int .i64 ((rd_T61 l2 x38_2).f4)) := hS_
            refine norm_ (a' := ?_) ?_ ?_
            rotate_left
            ·simp only [putAll, Act.put, List.setIfInBounds_toArray, List.set_cons_zero, List.set_cons_succ]
             rfl
            refine one_ (i := 10) (N := none) #[true,true,true,true,true,true,true,true,true,true,true,false] rfl rfl (one_of HT_.out (by kernel_rfl)) (by decide) (fun K hK => ?_)
            have hs82 : w81.cell? ⟨gb183, 0, none⟩ = some (.int .u8 0) := (blk_cell BK183.out 0).trans rfl
            have hfs82 := blk_frozen BK183.out 0
            have hns82_1 := NB184_183.out
            have hms82_1 := NB183_184.out
            have hs83 : w81.cell? ⟨gb183, 1, none⟩ = some (.string (⟨#[]⟩ : ByteArray)) := (blk_cell BK183.out 1).trans rfl
            have hfs83 := blk_frozen BK183.out 1
            have hns83_1 := NB184_183.out
            have hms83_1 := NB183_184.out
            have hs84 : w81.cell? ⟨gb183, 2, none⟩ = some (.int .i64 0) := (blk_cell BK183.out 2).trans rfl
            have hfs84 := blk_frozen BK183.out 2
            have hns84_1 := NB184_183.out
            have hms84_1 := NB183_184.out
            have hs85 : w81.cell? ⟨gb183, 3, none⟩ = some (.slice none 0 0) := (blk_cell BK183.out 3).trans rfl
            have hfs85 := blk_frozen BK183.out 3
            have hns85_1 := NB184_183.out
            have hms85_1 := NB183_184.out
            have hs86 : w81.cell? ⟨gb183, 4, none⟩ = some (.int .i64 0) := (blk_cell BK183.out 4).trans rfl
            have hfs86 := blk_frozen BK183.out 4
            have hns86_1 := NB184_183.out
            have hms86_1 := NB183_184.out
            refine skip_ (w1 := ?_) (by rfl) rfl ?_ ?_
            rotate_left
            ·go_simp
             rfl
            have q10_3 := Nat.ne_of_lt (Nat.lt_of_lt_of_le (World.block_lt_of_cell? _ _ hw181_0) GW183.out)
            have q11_3 := Nat.ne_of_lt (Nat.lt_of_lt_of_le (World.block_lt_of_cell? _ _ hw181_1) GW183.out)
            have q12_3 := Nat.ne_of_lt (Nat.lt_of_lt_of_le (World.block_lt_of_cell? _ _ hw181_2) GW183.out)
            have q13_3 := Nat.ne_of_lt (Nat.lt_of_lt_of_le (World.block_lt_of_cell? _ _ hw181_3) GW183.out)
            have q14_3 := Nat.ne_of_lt (Nat.lt_of_lt_of_le (World.block_lt_of_cell? _ _ hw181_4) GW183.out)
            have q20_3 := Nat.ne_of_lt (Nat.lt_of_lt_of_le (World.block_lt_of_cell? _ _ hw182_0) GW183.out)
            have q21_3 := Nat.ne_of_lt (Nat.lt_of_lt_of_le (World.block_lt_of_cell? _ _ hw182_1) GW183.out)
            have q22_3 := Nat.ne_of_lt (Nat.lt_of_lt_of_le (World.block_lt_of_cell? _ _ hw182_2) GW183.out)
            have q23_3 := Nat.ne_of_lt (Nat.lt_of_lt_of_le (World.block_lt_of_cell? _ _ hw182_3) GW183.out)
            have q24_3 := Nat.ne_of_lt (Nat.lt_of_lt_of_le (World.block_lt_of_cell? _ _ hw182_4) GW183.out)
            refine hK.out _ _ ⟨((cell_far (p := ⟨gb183, _, none⟩) q10_3 _).trans (((cell_far (p := ⟨gb183, _, none⟩) q10_3 _).trans (((cell_far (p := ⟨gb183, _, none⟩) q10_3 _).trans (((cell_far (p := ⟨gb183, _, none⟩) q10_3 _).trans (((cell_far (p := ⟨gb183, _, none⟩) q10_3 _).trans (hHeld.1)))))))))), ((cell_far (p := ⟨gb183, _, none⟩) q11_3 _).trans (((cell_far (p := ⟨gb183, _, none⟩) q11_3 _).trans (((cell_far (p := ⟨gb183, _, none⟩) q11_3 _).trans (((cell_far (p := ⟨gb183, _, none⟩) q11_3 _).trans (((cell_far (p := ⟨gb183, _, none⟩) q11_3 _).trans (hHeld.2.1)))))))))), ((cell_far (p := ⟨gb183, _, none⟩) q12_3 _).trans (((cell_far (p := ⟨gb183, _, none⟩) q12_3 _).trans (((cell_far (p := ⟨gb183, _, none⟩) q12_3 _).trans (((cell_far (p := ⟨gb183, _, none⟩) q12_3 _).trans (((cell_far (p := ⟨gb183, _, none⟩) q12_3 _).trans (hHeld.2.2.1)))))))))), ((cell_far (p := ⟨gb183, _, none⟩) q13_3 _).trans (((cell_far (p := ⟨gb183, _, none⟩) q13_3 _).trans (((cell_far (p := ⟨gb183, _, none⟩) q13_3 _).trans (((cell_far (p := ⟨gb183, _, none⟩) q13_3 _).trans (((cell_far (p := ⟨gb183, _, none⟩) q13_3 _).trans (hHeld.2.2.2.1)))))))))), ((cell_far (p := ⟨gb183, _, none⟩) q14_3 _).trans (((cell_far (p := ⟨gb183, _, none⟩) q14_3 _).trans (((cell_far (p := ⟨gb183, _, none⟩) q14_3 _).trans (((cell_far (p := ⟨gb183, _, none⟩) q14_3 _).trans (((cell_far (p := ⟨gb183, _, none⟩) q14_3 _).trans (hHeld.2.2.2.2.1)))))))))), ((cell_far (p := ⟨gb183, _, none⟩) q20_3 _).trans (((cell_far (p := ⟨gb183, _, none⟩) q20_3 _).trans (((cell_far (p := ⟨gb183, _, none⟩) q20_3 _).trans (((cell_far (p := ⟨gb183, _, none⟩) q20_3 _).trans (((cell_far (p := ⟨gb183, _, none⟩) q20_3 _).trans (hHeld.2.2.2.2.2.1)))))))))), ((cell_far (p := ⟨gb183, _, none⟩) q21_3 _).trans (((cell_far (p := ⟨gb183, _, none⟩) q21_3 _).trans (((cell_far (p := ⟨gb183, _, none⟩) q21_3 _).trans (((cell_far (p := ⟨gb183, _, none⟩) q21_3 _).trans (((cell_far (p := ⟨gb183, _, none⟩) q21_3 _).trans (hHeld.2.2.2.2.2.2.1)))))))))), ((cell_far (p := ⟨gb183, _, none⟩) q22_3 _).trans (((cell_far (p := ⟨gb183, _, none⟩) q22_3 _).trans (((cell_far (p := ⟨gb183, _, none⟩) q22_3 _).trans (((cell_far (p := ⟨gb183, _, none⟩) q22_3 _).trans (((cell_far (p := ⟨gb183, _, none⟩) q22_3 _).trans (hHeld.2.2.2.2.2.2.2.1)))))))))), ((cell_far (p := ⟨gb183, _, none⟩) q23_3 _).trans (((cell_far (p := ⟨gb183, _, none⟩) q23_3 _).trans (((cell_far (p := ⟨gb183, _, none⟩) q23_3 _).trans (((cell_far (p := ⟨gb183, _, none⟩) q23_3 _).trans (((cell_far (p := ⟨gb183, _, none⟩) q23_3 _).trans (hHeld.2.2.2.2.2.2.2.2.1)))))))))), ((cell_far (p := ⟨gb183, _, none⟩) q24_3 _).trans (((cell_far (p := ⟨gb183, _, none⟩) q24_3 _).trans (((cell_far (p := ⟨gb183, _, none⟩) q24_3 _).trans (((cell_far (p := ⟨gb183, _, none⟩) q24_3 _).trans (((cell_far (p := ⟨gb183, _, none⟩) q24_3 _).trans (hHeld.2.2.2.2.2.2.2.2.2))))))))))⟩ (fun hHeld => ?_)
            clear hK K
            refine one_ (i := 11) (N := none) #[true,true,true,true,true,true,true,true,true,true,true,true] rfl rfl (one_of HT_.out (by kernel_rfl)) (by decide) (fun K hK => ?_)
            have hs87 : w81.cell? ⟨gb184, 0, none⟩ = some (.int .u8 0) := (blk_cell BK184.out 0).trans rfl
            have hfs87 := blk_frozen BK184.out 0
            have hns87_0 := NB183_184.out
            have hms87_0 := NB184_183.out
            have hs88 : w81.cell? ⟨gb184, 1, none⟩ = some (.string (⟨#[]⟩ : ByteArray)) := (blk_cell BK184.out 1).trans rfl
            have hfs88 := blk_frozen BK184.out 1
            have hns88_0 := NB183_184.out
            have hms88_0 := NB184_183.out
            have hs89 : w81.cell? ⟨gb184, 2, none⟩ = some (.int .i64 0) := (blk_cell BK184.out 2).trans rfl
            have hfs89 := blk_frozen BK184.out 2
            have hns89_0 := NB183_184.out
            have hms89_0 := NB184_183.out
            have hs90 : w81.cell? ⟨gb184, 3, none⟩ = some (.slice none 0 0) := (blk_cell BK184.out 3).trans rfl
            have hfs90 := blk_frozen BK184.out 3
            have hns90_0 := NB183_184.out
            have hms90_0 := NB184_183.out
            have hs91 : w81.cell? ⟨gb184, 4, none⟩ = some (.int .i64 0) := (blk_cell BK184.out 4).trans rfl
            have hfs91 := blk_frozen BK184.out 4
            have hns91_0 := NB183_184.out
            have hms91_0 := NB184_183.out
            refine skip_ (w1 := ?_) (by rfl) rfl ?_ ?_
            rotate_left
            ·go_simp
             rfl
            have q10_4 := Nat.ne_of_lt (Nat.lt_of_lt_of_le (World.block_lt_of_cell? _ _ hw181_0) GW184.out)
            have q11_4 := Nat.ne_of_lt (Nat.lt_of_lt_of_le (World.block_lt_of_cell? _ _ hw181_1) GW184.out)
            have q12_4 := Nat.ne_of_lt (Nat.lt_of_lt_of_le (World.block_lt_of_cell? _ _ hw181_2) GW184.out)
            have q13_4 := Nat.ne_of_lt (Nat.lt_of_lt_of_le (World.block_lt_of_cell? _ _ hw181_3) GW184.out)
            have q14_4 := Nat.ne_of_lt (Nat.lt_of_lt_of_le (World.block_lt_of_cell? _ _ hw181_4) GW184.out)
            have q20_4 := Nat.ne_of_lt (Nat.lt_of_lt_of_le (World.block_lt_of_cell? _ _ hw182_0) GW184.out)
            have q21_4 := Nat.ne_of_lt (Nat.lt_of_lt_of_le (World.block_lt_of_cell? _ _ hw182_1) GW184.out)
            have q22_4 := Nat.ne_of_lt (Nat.lt_of_lt_of_le (World.block_lt_of_cell? _ _ hw182_2) GW184.out)
            have q23_4 := Nat.ne_of_lt (Nat.lt_of_lt_of_le (World.block_lt_of_cell? _ _ hw182_3) GW184.out)
            have q24_4 := Nat.ne_of_lt (Nat.lt_of_lt_of_le (World.block_lt_of_cell? _ _ hw182_4) GW184.out)
            refine hK.out _ _ ⟨((cell_far (p := ⟨gb184, _, none⟩) q10_4 _).trans (((cell_far (p := ⟨gb184, _, none⟩) q10_4 _).trans (((cell_far (p := ⟨gb184, _, none⟩) q10_4 _).trans (((cell_far (p := ⟨gb184, _, none⟩) q10_4 _).trans (((cell_far (p := ⟨gb184, _, none⟩) q10_4 _).trans (hHeld.1)))))))))), ((cell_far (p := ⟨gb184, _, none⟩) q11_4 _).trans (((cell_far (p := ⟨gb184, _, none⟩) q11_4 _).trans (((cell_far (p := ⟨gb184, _, none⟩) q11_4 _).trans (((cell_far (p := ⟨gb184, _, none⟩) q11_4 _).trans (((cell_far (p := ⟨gb184, _, none⟩) q11_4 _).trans (hHeld.2.1)))))))))), ((cell_far (p := ⟨gb184, _, none⟩) q12_4 _).trans (((cell_far (p := ⟨gb184, _, none⟩) q12_4 _).trans (((cell_far (p := ⟨gb184, _, none⟩) q12_4 _).trans (((cell_far (p := ⟨gb184, _, none⟩) q12_4 _).trans (((cell_far (p := ⟨gb184, _, none⟩) q12_4 _).trans (hHeld.2.2.1)))))))))), ((cell_far (p := ⟨gb184, _, none⟩) q13_4 _).trans (((cell_far (p := ⟨gb184, _, none⟩) q13_4 _).trans (((cell_far (p := ⟨gb184, _, none⟩) q13_4 _).trans (((cell_far (p := ⟨gb184, _, none⟩) q13_4 _).trans (((cell_far (p := ⟨gb184, _, none⟩) q13_4 _).trans (hHeld.2.2.2.1)))))))))), ((cell_far (p := ⟨gb184, _, none⟩) q14_4 _).trans (((cell_far (p := ⟨gb184, _, none⟩) q14_4 _).trans (((cell_far (p := ⟨gb184, _, none⟩) q14_4 _).trans (((cell_far (p := ⟨gb184, _, none⟩) q14_4 _).trans (((cell_far (p := ⟨gb184, _, none⟩) q14_4 _).trans (hHeld.2.2.2.2.1)))))))))), ((cell_far (p := ⟨gb184, _, none⟩) q20_4 _).trans (((cell_far (p := ⟨gb184, _, none⟩) q20_4 _).trans (((cell_far (p := ⟨gb184, _, none⟩) q20_4 _).trans (((cell_far (p := ⟨gb184, _, none⟩) q20_4 _).trans (((cell_far (p := ⟨gb184, _, none⟩) q20_4 _).trans (hHeld.2.2.2.2.2.1)))))))))), ((cell_far (p := ⟨gb184, _, none⟩) q21_4 _).trans (((cell_far (p := ⟨gb184, _, none⟩) q21_4 _).trans (((cell_far (p := ⟨gb184, _, none⟩) q21_4 _).trans (((cell_far (p := ⟨gb184, _, none⟩) q21_4 _).trans (((cell_far (p := ⟨gb184, _, none⟩) q21_4 _).trans (hHeld.2.2.2.2.2.2.1)))))))))), ((cell_far (p := ⟨gb184, _, none⟩) q22_4 _).trans (((cell_far (p := ⟨gb184, _, none⟩) q22_4 _).trans (((cell_far (p := ⟨gb184, _, none⟩) q22_4 _).trans (((cell_far (p := ⟨gb184, _, none⟩) q22_4 _).trans (((cell_far (p := ⟨gb184, _, none⟩) q22_4 _).trans (hHeld.2.2.2.2.2.2.2.1)))))))))), ((cell_far (p := ⟨gb184, _, none⟩) q23_4 _).trans (((cell_far (p := ⟨gb184, _, none⟩) q23_4 _).trans (((cell_far (p := ⟨gb184, _, none⟩) q23_4 _).trans (((cell_far (p := ⟨gb184, _, none⟩) q23_4 _).trans (((cell_far (p := ⟨gb184, _, none⟩) q23_4 _).trans (hHeld.2.2.2.2.2.2.2.2.1)))))))))), ((cell_far (p := ⟨gb184, _, none⟩) q24_4 _).trans (((cell_far (p := ⟨gb184, _, none⟩) q24_4 _).trans (((cell_far (p := ⟨gb184, _, none⟩) q24_4 _).trans (((cell_far (p := ⟨gb184, _, none⟩) q24_4 _).trans (((cell_far (p := ⟨gb184, _, none⟩) q24_4 _).trans (hHeld.2.2.2.2.2.2.2.2.2))))))))))⟩ (fun hHeld => ?_)
            clear hK K
            refine done_ (done_of HT_.out (by kernel_rfl)) ?_
            have hnb92 := NB183_184.out
            have hnc92 := NB184_183.out
            have hcz93_0 : w81.cell? ⟨gb183, 0, none⟩ = some (.int .u8 0) := (blk_cell BK183.out 0).trans rfl
            have hcz93_1 : w81.cell? ⟨gb183, 1, none⟩ = some (.string (⟨#[]⟩ : ByteArray)) := (blk_cell BK183.out 1).trans rfl
            have hcz93_2 : w81.cell? ⟨gb183, 2, none⟩ = some (.int .i64 0) := (blk_cell BK183.out 2).trans rfl
            have hcz93_3 : w81.cell? ⟨gb183, 3, none⟩ = some (.slice none 0 0) := (blk_cell BK183.out 3).trans rfl
            have hcz93_4 : w81.cell? ⟨gb183, 4, none⟩ = some (.int .i64 0) := (blk_cell BK183.out 4).trans rfl
            have hfz93_0 := blk_frozen BK183.out 0
            have hfz93_1 := blk_frozen BK183.out 1
            have hfz93_2 := blk_frozen BK183.out 2
            have hfz93_3 := blk_frozen BK183.out 3
            have hfz93_4 := blk_frozen BK183.out 4
            have hcz94_0 : w81.cell? ⟨gb184, 0, none⟩ = some (.int .u8 0) := (blk_cell BK184.out 0).trans rfl
            have hcz94_1 : w81.cell? ⟨gb184, 1, none⟩ = some (.string (⟨#[]⟩ : ByteArray)) := (blk_cell BK184.out 1).trans rfl
            have hcz94_2 : w81.cell? ⟨gb184, 2, none⟩ = some (.int .i64 0) := (blk_cell BK184.out 2).trans rfl
            have hcz94_3 : w81.cell? ⟨gb184, 3, none⟩ = some (.slice none 0 0) := (blk_cell BK184.out 3).trans rfl
            have hcz94_4 : w81.cell? ⟨gb184, 4, none⟩ = some (.int .i64 0) := (blk_cell BK184.out 4).trans rfl
            have hfz94_0 := blk_frozen BK184.out 0
            have hfz94_1 := blk_frozen BK184.out 1
            have hfz94_2 := blk_frozen BK184.out 2
            have hfz94_3 := blk_frozen BK184.out 3
            have hfz94_4 := blk_frozen BK184.out 4
            try go_wp2
            go_ret
            exact ⟨by first | rfl | (simp [errW_none, errW_some] <;> rfl) | (simp [*, errW_none, errW_some] <;> rfl), by repeat (first | (with_reducible first | exact HB.out | apply below_alloc | apply pw_below_drewN | apply below_drew1 | refine below_set ?_ GE183.out | refine below_set ?_ GE184.out) | exact HB.out)⟩
          ·rw [if_neg c23] at H
           have c23b0 : (((rd_T61 l0 x38_2).f0) == ((rd_T61 l2 x38_2).f0)) = false := beq_eq_false_iff_ne.mpr c23
           have c23b1 : (((rd_T61 l0 x38_2).f0) != ((rd_T61 l2 x38_2).f0)) = true := bne_iff_ne.mpr c23
           obtain rfl := Option.some.inj H
           try go_wp2
           have n0_ := Aside0.mk (below_drew1 HB.out)
           clear HB
           have HB := n0_
           clear n0_
           have p181 : 0 ≤ (x38_2 : Int) := of_decide_eq_true (by first | (with_reducible assumption) | assumption)
           have q181 : x38_2 < (l0.length : Int) := of_decide_eq_true (by first | (with_reducible assumption) | assumption)
           obtain ⟨ad181, A181_3, c181_3, e181, hx181_0, hx181_1, hx181_2, hx181_3, hx181_4, hl181_3, hi181_3⟩ := at_T61 HR0.out x38_2 p181 q181
           have hw181_4 := hx181_4
           have hw181_3 := hx181_3
           have hw181_2 := hx181_2
           have hw181_1 := hx181_1
           have hw181_0 := hx181_0
           cases e181
           replace hx181_0 := (HB.out.cell (World.block_lt_of_cell? w _ hx181_0)).trans hx181_0
           replace hx181_1 := (HB.out.cell (World.block_lt_of_cell? w _ hx181_1)).trans hx181_1
           replace hx181_2 := (HB.out.cell (World.block_lt_of_cell? w _ hx181_2)).trans hx181_2
           replace hx181_3 := (HB.out.cell (World.block_lt_of_cell? w _ hx181_3)).trans hx181_3
           replace hx181_4 := (HB.out.cell (World.block_lt_of_cell? w _ hx181_4)).trans hx181_4
           have HR181_3 := Aside0.mk hi181_3
           have HC181_3 := Aside0.mk hl181_3
           clear hi181_3 hl181_3
           replace p181 := eq_true p181
           replace q181 := eq_true q181
           have p182 : 0 ≤ (x38_2 : Int) := of_decide_eq_true (by first | (with_reducible assumption) | assumption)
           have q182 : x38_2 < (l2.length : Int) := of_decide_eq_true (by first | (with_reducible assumption) | assumption)
           obtain ⟨ad182, A182_3, c182_3, e182, hx182_0, hx182_1, hx182_2, hx182_3, hx182_4, hl182_3, hi182_3⟩ := at_T61 HR2.out x38_2 p182 q182
           have hw182_4 := hx182_4
           have hw182_3 := hx182_3
           have hw182_2 := hx182_2
           have hw182_1 := hx182_1
           have hw182_0 := hx182_0
           cases e182
           replace hx182_0 := (HB.out.cell (World.block_lt_of_cell? w _ hx182_0)).trans hx182_0
           replace hx182_1 := (HB.out.cell (World.block_lt_of_cell? w _ hx182_1)).trans hx182_1
           replace hx182_2 := (HB.out.cell (World.block_lt_of_cell? w _ hx182_2)).trans hx182_2
           replace hx182_3 := (HB.out.cell (World.block_lt_of_cell? w _ hx182_3)).trans hx182_3
           replace hx182_4 := (HB.out.cell (World.block_lt_of_cell? w _ hx182_4)).trans hx182_4
           have HR182_3 := Aside0.mk hi182_3
           have HC182_3 := Aside0.mk hl182_3
           clear hi182_3 hl182_3
           replace p182 := eq_true p182
           replace q182 := eq_true q182
           refine start_ (n := 12) (S := fun w' => w'.cell? (ad181.add ((x38_2).toNat * 5)) = some (.int .u8 ((rd_T61 l0 x38_2).f0)) ∧ w'.cell? ⟨(ad181.add ((x38_2).toNat * 5)).block, (ad181.add ((x38_2).toNat * 5)).off + 1, none⟩ = some (.string ((rd_T61 l0 x38_2).f1)) ∧ w'.cell? ⟨(ad181.add ((x38_2).toNat * 5)).block, (ad181.add ((x38_2).toNat * 5)).off + 2, none⟩ = some (.int .i64 ((rd_T61 l0 x38_2).f2)) ∧ w'.cell? ⟨(ad181.add ((x38_2).toNat * 5)).block, (ad181.add ((x38_2).toNat * 5)).off + 3, none⟩ = some (.slice A181_3 ((rd_T61 l0 x38_2).f3).length c181_3) ∧ w'.cell? ⟨(ad181.add ((x38_2).toNat * 5)).block, (ad181.add ((x38_2).toNat * 5)).off + 4, none⟩ = some (.int .i64 ((rd_T61 l0 x38_2).f4)) ∧ w'.cell? (ad182.add ((x38_2).toNat * 5)) = some (.int .u8 ((rd_T61 l2 x38_2).f0)) ∧ w'.cell? ⟨(ad182.add ((x38_2).toNat * 5)).block, (ad182.add ((x38_2).toNat * 5)).off + 1, none⟩ = some (.string ((rd_T61 l2 x38_2).f1)) ∧ w'.cell? ⟨(ad182.add ((x38_2).toNat * 5)).block, (ad182.add ((x38_2).toNat * 5)).off + 2, none⟩ = some (.int .i64 ((rd_T61 l2 x38_2).f2)) ∧ w'.cell? ⟨(ad182.add ((x38_2).toNat * 5)).block, (ad182.add ((x38_2).toNat * 5)).off + 3, none⟩ = some (.slice A182_3 ((rd_T61 l2 x38_2).f3).length c182_3) ∧ w'.cell? ⟨(ad182.add ((x38_2).toNat * 5)).block, (ad182.add ((x38_2).toNat * 5)).off + 4, none⟩ = some (.int .i64 ((rd_T61 l2 x38_2).f4))) (ds := []) #[false,false,false,false,false,false,false,false,false,false,false,false] (by kernel_rfl) rfl rfl ⟨((HB.out.cell (World.block_lt_of_cell? w _ hw181_0)).trans hw181_0), ((HB.out.cell (World.block_lt_of_cell? w _ hw181_1)).trans hw181_1), ((HB.out.cell (World.block_lt_of_cell? w _ hw181_2)).trans hw181_2), ((HB.out.cell (World.block_lt_of_cell? w _ hw181_3)).trans hw181_3), ((HB.out.cell (World.block_lt_of_cell? w _ hw181_4)).trans hw181_4), ((HB.out.cell (World.block_lt_of_cell? w _ hw182_0)).trans hw182_0), ((HB.out.cell (World.block_lt_of_cell? w _ hw182_1)).trans hw182_1), ((HB.out.cell (World.block_lt_of_cell? w _ hw182_2)).trans hw182_2), ((HB.out.cell (World.block_lt_of_cell? w _ hw182_3)).trans hw182_3), ((HB.out.cell (World.block_lt_of_cell? w _ hw182_4)).trans hw182_4)⟩ (fun hHeld => ?_); refine with_tabW show_Same.tab6 show_Same.bits6 (fun HT_ HW_ => ?_)
           generalize wr.drew = w95 at HB HR181_3 HR182_3 hx181_0 hx181_1 hx181_2 hx181_3 hx181_4 hx182_0 hx182_1 hx182_2 hx182_3 hx182_4 hHeld ⊢
           refine pure_ (i := 0) (N := some 41) (v := ?_) (a' := ?_) #[true,false,false,false,false,false,false,false,false,false,false,false] rfl rfl (any_of HT_.out (by kernel_rfl)) (fun _ _ _ h => h) (Or.inl ⟨by rfl, ?_⟩) ?_ ?_
           rotate_left
           ·intro w'
            go_simp
            with_reducible rfl
           rotate_left
           ·simp only [Act.put, List.setIfInBounds_toArray, List.set_cons_zero, List.set_cons_succ, i64_w, i32_w]
            rfl
           refine pure_ (i := 1) (N := some 42) (v := ?_) (a' := ?_) #[true,true,false,false,false,false,false,false,false,false,false,false] rfl rfl (any_of HT_.out (by kernel_rfl)) (fun _ _ _ h => h) (Or.inl ⟨by rfl, ?_⟩) ?_ ?_
           rotate_left
           ·intro w'
            go_simp
            with_reducible rfl
           rotate_left
           ·simp only [Act.put, List.setIfInBounds_toArray, List.set_cons_zero, List.set_cons_succ, i64_w, i32_w]
            rfl
           refine pure_ (i := 2) (N := some 43) (v := ?_) (a' := ?_) #[true,true,true,false,false,false,false,false,false,false,false,false] rfl rfl (any_of HT_.out (by kernel_rfl)) (fun _ _ _ h => h) (Or.inl ⟨by rfl, ?_⟩) ?_ ?_
           rotate_left
           ·intro w'
            go_simp
            with_reducible rfl
           rotate_left
           ·simp only [Act.put, List.setIfInBounds_toArray, List.set_cons_zero, List.set_cons_succ, i64_w, i32_w]
            rfl
           refine pure_ (i := 4) (N := some 45) (v := ?_) (a' := ?_) #[true,true,true,false,true,false,false,false,false,false,false,false] rfl rfl (any_of HT_.out (by kernel_rfl)) (fun _ _ _ h => h) (Or.inl ⟨by rfl, ?_⟩) ?_ ?_
           rotate_left
           ·intro w'
            go_simp
            with_reducible rfl
           rotate_left
           ·simp only [Act.put, List.setIfInBounds_toArray, List.set_cons_zero, List.set_cons_succ, i64_w, i32_w]
            rfl
           refine pure_ (i := 5) (N := some 46) (v := ?_) (a' := ?_) #[true,true,true,false,true,true,false,false,false,false,false,false] rfl rfl (any_of HT_.out (by kernel_rfl)) (fun _ _ _ h => h) (Or.inl ⟨by rfl, ?_⟩) ?_ ?_
           rotate_left
           ·intro w'
            go_simp
            with_reducible rfl
           rotate_left
           ·simp only [Act.put, List.setIfInBounds_toArray, List.set_cons_zero, List.set_cons_succ, i64_w, i32_w]
            rfl
           refine pure_ (i := 6) (N := some 47) (v := ?_) (a' := ?_) #[true,true,true,false,true,true,true,false,false,false,false,false] rfl rfl (any_of HT_.out (by kernel_rfl)) (fun _ _ _ h => h) (Or.inl ⟨by rfl, ?_⟩) ?_ ?_
           rotate_left
           ·intro w'
            go_simp
            with_reducible rfl
           rotate_left
           ·simp only [Act.put, List.setIfInBounds_toArray, List.set_cons_zero, List.set_cons_succ, i64_w, i32_w]
            rfl
           refine take_ (i := 3) (N := some 44) (v := ?_) (a' := ?_) #[true,true,true,true,true,true,true,false,false,false,false,false] rfl rfl (take_ofW HT_.out HW_.out (by kernel_rfl)) (fun _ _ _ h => h) (Or.inl ⟨by rfl, ?_⟩) hHeld ?_ ?_
           rotate_left
           ·rintro w' ⟨s0, s1, s2, s3, s4, s5, s6, s7, s8, s9⟩
            go_simp
            with_reducible rfl
           rotate_left
           ·simp only [Act.put, List.setIfInBounds_toArray, List.set_cons_zero, List.set_cons_succ, i64_w, i32_w]
            rfl
           refine take_ (i := 7) (N := some 48) (v := ?_) (a' := ?_) #[true,true,true,true,true,true,true,true,false,false,false,false] rfl rfl (take_ofW HT_.out HW_.out (by kernel_rfl)) (fun _ _ _ h => h) (Or.inl ⟨by rfl, ?_⟩) hHeld ?_ ?_
           rotate_left
           ·rintro w' ⟨s0, s1, s2, s3, s4, s5, s6, s7, s8, s9⟩
            go_simp
            with_reducible rfl
           rotate_left
           ·simp only [Act.put, List.setIfInBounds_toArray, List.set_cons_zero, List.set_cons_succ, i64_w, i32_w]
            rfl
           refine join_ (σ := Nat × Nat) 2 #[true,true,true,true,true,true,true,true,true,true,false,false] (fun s_ => [(10, .pointer (some ⟨s_.1, 0, none⟩)), (11, .pointer (some ⟨s_.2, 0, none⟩))]) (fun s_ w' => (w'.cell? (ad181.add ((x38_2).toNat * 5)) = some (.int .u8 ((rd_T61 l0 x38_2).f0)) ∧ w'.cell? ⟨(ad181.add ((x38_2).toNat * 5)).block, (ad181.add ((x38_2).toNat * 5)).off + 1, none⟩ = some (.string ((rd_T61 l0 x38_2).f1)) ∧ w'.cell? ⟨(ad181.add ((x38_2).toNat * 5)).block, (ad181.add ((x38_2).toNat * 5)).off + 2, none⟩ = some (.int .i64 ((rd_T61 l0 x38_2).f2)) ∧ w'.cell? ⟨(ad181.add ((x38_2).toNat * 5)).block, (ad181.add ((x38_2).toNat * 5)).off + 3, none⟩ = some (.slice A181_3 ((rd_T61 l0 x38_2).f3).length c181_3) ∧ w'.cell? ⟨(ad181.add ((x38_2).toNat * 5)).block, (ad181.add ((x38_2).toNat * 5)).off + 4, none⟩ = some (.int .i64 ((rd_T61 l0 x38_2).f4)) ∧ w'.cell? (ad182.add ((x38_2).toNat * 5)) = some (.int .u8 ((rd_T61 l2 x38_2).f0)) ∧ w'.cell? ⟨(ad182.add ((x38_2).toNat * 5)).block, (ad182.add ((x38_2).toNat * 5)).off + 1, none⟩ = some (.string ((rd_T61 l2 x38_2).f1)) ∧ w'.cell? ⟨(ad182.add ((x38_2).toNat * 5)).block, (ad182.add ((x38_2).toNat * 5)).off + 2, none⟩ = some (.int .i64 ((rd_T61 l2 x38_2).f2)) ∧ w'.cell? ⟨(ad182.add ((x38_2).toNat * 5)).block, (ad182.add ((x38_2).toNat * 5)).off + 3, none⟩ = some (.slice A182_3 ((rd_T61 l2 x38_2).f3).length c182_3) ∧ w'.cell? ⟨(ad182.add ((x38_2).toNat * 5)).block, (ad182.add ((x38_2).toNat * 5)).off + 4, none⟩ = some (.int .i64 ((rd_T61 l2 x38_2).f4))) ∧ (w'.heap[s_.1]? = some (.cells #[.int .u8 0, .string (⟨#[]⟩ : ByteArray), .int .i64 0, .slice none 0 0, .int .i64 0] 61 (0, 0))) ∧ (w'.heap[s_.2]? = some (.cells #[.int .u8 0, .string (⟨#[]⟩ : ByteArray), .int .i64 0, .slice none 0 0, .int .i64 0] 61 (0, 0))) ∧ (w.heap.size ≤ s_.1) ∧ (w.heap.size ≤ s_.1) ∧ (s_.2 ≠ s_.1) ∧ (s_.1 ≠ s_.2) ∧ (w.heap.size ≤ s_.2) ∧ (w.heap.size ≤ s_.2) ∧ (Below w.heap.size w w')) ?_ ?_
           rotate_left
           ·intro hCont
            refine two_ (i := 8) (j := 9) (Ni := some 10) (Nj := some 11) #[true,true,true,true,true,true,true,true,true,false,false,false] #[true,true,true,true,true,true,true,true,false,true,false,false] rfl rfl rfl rfl (two_of HT_.out (by kernel_rfl)) (by decide) (by decide) (fun K hK => ?_) (fun K hK => ?_)
            ·skip
             refine box_step ?hg (N := 10) ?hd (cs := #[.int .u8 0, .string (⟨#[]⟩ : ByteArray), .int .i64 0, .slice none 0 0, .int .i64 0]) (t := 61) ?hr ?_; (case hd => rfl); (case hg => rfl); (case hr => first | (go_simp; done) | (go_simp; rfl))
             intro gb183 hg w96 hbox hb
             have n0_ := Aside0.mk (below_step (by repeat (first | (with_reducible first | exact HB.out | apply below_alloc | apply pw_below_drewN | apply below_drew1) | exact HB.out | exact Below.refl _ _)) hb)
             have n1_ := Aside0.mk (hbox)
             have n2_ := Aside0.mk ((by rw [hg]; exact (below_size (by repeat (first | (with_reducible first | exact HB.out | apply below_alloc | apply pw_below_drewN | apply below_drew1) | exact HB.out | exact Below.refl _ _))) : w.heap.size ≤ gb183))
             have n3_ := Aside0.mk ((by rw [hg]; exact (below_size (by repeat (first | (with_reducible first | exact HB.out | apply below_alloc | apply pw_below_drewN | apply below_drew1) | exact HB.out | exact Below.refl _ _))) : w.heap.size ≤ gb183))
             clear HB
             have HB := n0_
             have BK183 := n1_
             have GW183 := n2_
             have GE183 := n3_
             clear n0_ n1_ n2_ n3_
             clear hb hbox hg
             refine hK.out _ _ ⟨((HB.out.cell (World.block_lt_of_cell? w _ hw181_0)).trans hw181_0), ((HB.out.cell (World.block_lt_of_cell? w _ hw181_1)).trans hw181_1), ((HB.out.cell (World.block_lt_of_cell? w _ hw181_2)).trans hw181_2), ((HB.out.cell (World.block_lt_of_cell? w _ hw181_3)).trans hw181_3), ((HB.out.cell (World.block_lt_of_cell? w _ hw181_4)).trans hw181_4), ((HB.out.cell (World.block_lt_of_cell? w _ hw182_0)).trans hw182_0), ((HB.out.cell (World.block_lt_of_cell? w _ hw182_1)).trans hw182_1), ((HB.out.cell (World.block_lt_of_cell? w _ hw182_2)).trans hw182_2), ((HB.out.cell (World.block_lt_of_cell? w _ hw182_3)).trans hw182_3), ((HB.out.cell (World.block_lt_of_cell? w _ hw182_4)).trans hw182_4)⟩ (fun hHeld => ?_)
             clear hK K
             refine norm_ (a' := ?_) ?_ ?_
             rotate_left
             ·show Act.put _ (some 10) _ = _
              simp only [Act.put, List.setIfInBounds_toArray, List.set_cons_zero, List.set_cons_succ, i64_w, i32_w]
              rfl
             refine one_ (i := 9) (N := some 11) #[true,true,true,true,true,true,true,true,true,true,false,false] rfl rfl (one_of HT_.out (by kernel_rfl)) (by decide) (fun K hK => ?_)
             refine box_step ?hg (N := 11) ?hd (cs := #[.int .u8 0, .string (⟨#[]⟩ : ByteArray), .int .i64 0, .slice none 0 0, .int .i64 0]) (t := 61) ?hr ?_; (case hd => rfl); (case hg => rfl); (case hr => first | (go_simp; done) | (go_simp; rfl))
             intro gb184 hg w97 hbox hb
             have n0_ := Aside0.mk (blk_below (g := gb183) (o := .cells #[.int .u8 0, .string (⟨#[]⟩ : ByteArray), .int .i64 0, .slice none 0 0, .int .i64 0] 61 (0, 0)) (by (with_reducible repeat (first | refine blk_drewN ?_ _ | refine blk_drew ?_ | refine blk_alloc ?_ _)); exact BK183.out) hb)
             have n1_ := Aside0.mk (below_step (by repeat (first | (with_reducible first | exact HB.out | apply below_alloc | apply pw_below_drewN | apply below_drew1 | refine below_set ?_ GE183.out) | exact HB.out)) hb)
             have n2_ := Aside0.mk (hbox)
             have n3_ := Aside0.mk ((by rw [hg]; exact (below_size (by repeat (first | (with_reducible first | exact HB.out | apply below_alloc | apply pw_below_drewN | apply below_drew1 | refine below_set ?_ GE183.out) | exact HB.out))) : w.heap.size ≤ gb184))
             have n4_ := Aside0.mk ((by rw [hg]; exact (below_size (by repeat (first | (with_reducible first | exact HB.out | apply below_alloc | apply pw_below_drewN | apply below_drew1 | refine below_set ?_ GE183.out) | exact HB.out))) : w.heap.size ≤ gb184))
             have n5_ := Aside0.mk ((by rw [hg]; exact Nat.ne_of_lt (blk_lt (g := gb183) (o := .cells #[.int .u8 0, .string (⟨#[]⟩ : ByteArray), .int .i64 0, .slice none 0 0, .int .i64 0] 61 (0, 0)) (by (with_reducible repeat (first | refine blk_drewN ?_ _ | refine blk_drew ?_ | refine blk_alloc ?_ _)); exact BK183.out)) : gb183 ≠ gb184))
             have n6_ := Aside0.mk ((by rw [hg]; exact Nat.ne_of_gt (blk_lt (g := gb183) (o := .cells #[.int .u8 0, .string (⟨#[]⟩ : ByteArray), .int .i64 0, .slice none 0 0, .int .i64 0] 61 (0, 0)) (by (with_reducible repeat (first | refine blk_drewN ?_ _ | refine blk_drew ?_ | refine blk_alloc ?_ _)); exact BK183.out)) : gb184 ≠ gb183))
             clear BK183
             clear HB
             have BK183 := n0_
             have HB := n1_
             have BK184 := n2_
             have GW184 := n3_
             have GE184 := n4_
             have NB183_184 := n5_
             have NB184_183 := n6_
             clear n0_ n1_ n2_ n3_ n4_ n5_ n6_
             clear hb hbox hg
             refine hK.out _ _ ⟨((HB.out.cell (World.block_lt_of_cell? w _ hw181_0)).trans hw181_0), ((HB.out.cell (World.block_lt_of_cell? w _ hw181_1)).trans hw181_1), ((HB.out.cell (World.block_lt_of_cell? w _ hw181_2)).trans hw181_2), ((HB.out.cell (World.block_lt_of_cell? w _ hw181_3)).trans hw181_3), ((HB.out.cell (World.block_lt_of_cell? w _ hw181_4)).trans hw181_4), ((HB.out.cell (World.block_lt_of_cell? w _ hw182_0)).trans hw182_0), ((HB.out.cell (World.block_lt_of_cell? w _ hw182_1)).trans hw182_1), ((HB.out.cell (World.block_lt_of_cell? w _ hw182_2)).trans hw182_2), ((HB.out.cell (World.block_lt_of_cell? w _ hw182_3)).trans hw182_3), ((HB.out.cell (World.block_lt_of_cell? w _ hw182_4)).trans hw182_4)⟩ (fun hHeld => ?_)
             clear hK K
             refine norm_ (a' := ?_) ?_ ?_
             rotate_left
             ·show Act.put _ (some 11) _ = _
              simp only [Act.put, List.setIfInBounds_toArray, List.set_cons_zero, List.set_cons_succ, i64_w, i32_w]
              rfl
             exact norm_ (by simp only [putAll, Act.put, List.setIfInBounds_toArray, List.set_cons_zero, List.set_cons_succ]) (hCont (gb183, gb184) _ ⟨hHeld, (by (with_reducible repeat (first | refine blk_drewN ?_ _ | refine blk_drew ?_ | refine blk_alloc ?_ _)); exact BK183.out), (by (with_reducible repeat (first | refine blk_drewN ?_ _ | refine blk_drew ?_ | refine blk_alloc ?_ _)); exact BK184.out), GW183.out, GE183.out, NB184_183.out, NB183_184.out, GW184.out, GE184.out, (by repeat (first | (with_reducible first | exact HB.out | apply below_alloc | apply pw_below_drewN | apply below_drew1 | refine below_set ?_ GE183.out | refine below_set ?_ GE184.out) | exact HB.out))⟩)
            ·skip
             refine box_step ?hg (N := 11) ?hd (cs := #[.int .u8 0, .string (⟨#[]⟩ : ByteArray), .int .i64 0, .slice none 0 0, .int .i64 0]) (t := 61) ?hr ?_; (case hd => rfl); (case hg => rfl); (case hr => first | (go_simp; done) | (go_simp; rfl))
             intro gb184 hg w96 hbox hb
             have n0_ := Aside0.mk (below_step (by repeat (first | (with_reducible first | exact HB.out | apply below_alloc | apply pw_below_drewN | apply below_drew1) | exact HB.out | exact Below.refl _ _)) hb)
             have n1_ := Aside0.mk (hbox)
             have n2_ := Aside0.mk ((by rw [hg]; exact (below_size (by repeat (first | (with_reducible first | exact HB.out | apply below_alloc | apply pw_below_drewN | apply below_drew1) | exact HB.out | exact Below.refl _ _))) : w.heap.size ≤ gb184))
             have n3_ := Aside0.mk ((by rw [hg]; exact (below_size (by repeat (first | (with_reducible first | exact HB.out | apply below_alloc | apply pw_below_drewN | apply below_drew1) | exact HB.out | exact Below.refl _ _))) : w.heap.size ≤ gb184))
             clear HB
             have HB := n0_
             have BK184 := n1_
             have GW184 := n2_
             have GE184 := n3_
             clear n0_ n1_ n2_ n3_
             clear hb hbox hg
             refine hK.out _ _ ⟨((HB.out.cell (World.block_lt_of_cell? w _ hw181_0)).trans hw181_0), ((HB.out.cell (World.block_lt_of_cell? w _ hw181_1)).trans hw181_1), ((HB.out.cell (World.block_lt_of_cell? w _ hw181_2)).trans hw181_2), ((HB.out.cell (World.block_lt_of_cell? w _ hw181_3)).trans hw181_3), ((HB.out.cell (World.block_lt_of_cell? w _ hw181_4)).trans hw181_4), ((HB.out.cell (World.block_lt_of_cell? w _ hw182_0)).trans hw182_0), ((HB.out.cell (World.block_lt_of_cell? w _ hw182_1)).trans hw182_1), ((HB.out.cell (World.block_lt_of_cell? w _ hw182_2)).trans hw182_2), ((HB.out.cell (World.block_lt_of_cell? w _ hw182_3)).trans hw182_3), ((HB.out.cell (World.block_lt_of_cell? w _ hw182_4)).trans hw182_4)⟩ (fun hHeld => ?_)
             clear hK K
             refine norm_ (a' := ?_) ?_ ?_
             rotate_left
             ·show Act.put _ (some 11) _ = _
              simp only [Act.put, List.setIfInBounds_toArray, List.set_cons_zero, List.set_cons_succ, i64_w, i32_w]
              rfl
             refine one_ (i := 8) (N := some 10) #[true,true,true,true,true,true,true,true,true,true,false,false] rfl rfl (one_of HT_.out (by kernel_rfl)) (by decide) (fun K hK => ?_)
             refine box_step ?hg (N := 10) ?hd (cs := #[.int .u8 0, .string (⟨#[]⟩ : ByteArray), .int .i64 0, .slice none 0 0, .int .i64 0]) (t := 61) ?hr ?_; (case hd => rfl); (case hg => rfl); (case hr => first | (go_simp; done) | (go_simp; rfl))
             intro gb183 hg w97 hbox hb
             have n0_ := Aside0.mk (blk_below (g := gb184) (o := .cells #[.int .u8 0, .string (⟨#[]⟩ : ByteArray), .int .i64 0, .slice none 0 0, .int .i64 0] 61 (0, 0)) (by (with_reducible repeat (first | refine blk_drewN ?_ _ | refine blk_drew ?_ | refine blk_alloc ?_ _)); exact BK184.out) hb)
             have n1_ := Aside0.mk (below_step (by repeat (first | (with_reducible first | exact HB.out | apply below_alloc | apply pw_below_drewN | apply below_drew1 | refine below_set ?_ GE184.out) | exact HB.out)) hb)
             have n2_ := Aside0.mk (hbox)
             have n3_ := Aside0.mk ((by rw [hg]; exact (below_size (by repeat (first | (with_reducible first | exact HB.out | apply below_alloc | apply pw_below_drewN | apply below_drew1 | refine below_set ?_ GE184.out) | exact HB.out))) : w.heap.size ≤ gb183))
             have n4_ := Aside0.mk ((by rw [hg]; exact (below_size (by repeat (first | (with_reducible first | exact HB.out | apply below_alloc | apply pw_below_drewN | apply below_drew1 | refine below_set ?_ GE184.out) | exact HB.out))) : w.heap.size ≤ gb183))
             have n5_ := Aside0.mk ((by rw [hg]; exact Nat.ne_of_lt (blk_lt (g := gb184) (o := .cells #[.int .u8 0, .string (⟨#[]⟩ : ByteArray), .int .i64 0, .slice none 0 0, .int .i64 0] 61 (0, 0)) (by (with_reducible repeat (first | refine blk_drewN ?_ _ | refine blk_drew ?_ | refine blk_alloc ?_ _)); exact BK184.out)) : gb184 ≠ gb183))
             have n6_ := Aside0.mk ((by rw [hg]; exact Nat.ne_of_gt (blk_lt (g := gb184) (o := .cells #[.int .u8 0, .string (⟨#[]⟩ : ByteArray), .int .i64 0, .slice none 0 0, .int .i64 0] 61 (0, 0)) (by (with_reducible repeat (first | refine blk_drewN ?_ _ | refine blk_drew ?_ | refine blk_alloc ?_ _)); exact BK184.out)) : gb183 ≠ gb184))
             clear BK184
             clear HB
             have BK184 := n0_
             have HB := n1_
             have BK183 := n2_
             have GW183 := n3_
             have GE183 := n4_
             have NB184_183 := n5_
             have NB183_184 := n6_
             clear n0_ n1_ n2_ n3_ n4_ n5_ n6_
             clear hb hbox hg
             refine hK.out _ _ ⟨((HB.out.cell (World.block_lt_of_cell? w _ hw181_0)).trans hw181_0), ((HB.out.cell (World.block_lt_of_cell? w _ hw181_1)).trans hw181_1), ((HB.out.cell (World.block_lt_of_cell? w _ hw181_2)).trans hw181_2), ((HB.out.cell (World.block_lt_of_cell? w _ hw181_3)).trans hw181_3), ((HB.out.cell (World.block_lt_of_cell? w _ hw181_4)).trans hw181_4), ((HB.out.cell (World.block_lt_of_cell? w _ hw182_0)).trans hw182_0), ((HB.out.cell (World.block_lt_of_cell? w _ hw182_1)).trans hw182_1), ((HB.out.cell (World.block_lt_of_cell? w _ hw182_2)).trans hw182_2), ((HB.out.cell (World.block_lt_of_cell? w _ hw182_3)).trans hw182_3), ((HB.out.cell (World.block_lt_of_cell? w _ hw182_4)).trans hw182_4)⟩ (fun hHeld => ?_)
             clear hK K
             refine norm_ (a' := ?_) ?_ ?_
             rotate_left
             ·show Act.put _ (some 10) _ = _
              simp only [Act.put, List.setIfInBounds_toArray, List.set_cons_zero, List.set_cons_succ, i64_w, i32_w]
              rfl
             exact norm_ (by simp only [putAll, Act.put, List.setIfInBounds_toArray, List.set_cons_zero, List.set_cons_succ]) (hCont (gb183, gb184) _ ⟨hHeld, (by (with_reducible repeat (first | refine blk_drewN ?_ _ | refine blk_drew ?_ | refine blk_alloc ?_ _)); exact BK183.out), (by (with_reducible repeat (first | refine blk_drewN ?_ _ | refine blk_drew ?_ | refine blk_alloc ?_ _)); exact BK184.out), GW183.out, GE183.out, NB184_183.out, NB183_184.out, GW184.out, GE184.out, (by repeat (first | (with_reducible first | exact HB.out | apply below_alloc | apply pw_below_drewN | apply below_drew1 | refine below_set ?_ GE184.out | refine below_set ?_ GE183.out) | exact HB.out))⟩)
           rintro ⟨gb183, gb184⟩ w98 ⟨hS_, h0_, h1_, h2_, h3_, h4_, h5_, h6_, h7_, h8_⟩
           have n0_ : Aside0 (w98.heap[gb183]? = some (.cells #[.int .u8 0, .string (⟨#[]⟩ : ByteArray), .int .i64 0, .slice none 0 0, .int .i64 0] 61 (0, 0))) := ⟨h0_⟩
           have n1_ : Aside0 (w98.heap[gb184]? = some (.cells #[.int .u8 0, .string (⟨#[]⟩ : ByteArray), .int .i64 0, .slice none 0 0, .int .i64 0] 61 (0, 0))) := ⟨h1_⟩
           have n2_ : Aside0 (w.heap.size ≤ gb183) := ⟨h2_⟩
           have n3_ : Aside0 (w.heap.size ≤ gb183) := ⟨h3_⟩
           have n4_ : Aside0 (gb184 ≠ gb183) := ⟨h4_⟩
           have n5_ : Aside0 (gb183 ≠ gb184) := ⟨h5_⟩
           have n6_ : Aside0 (w.heap.size ≤ gb184) := ⟨h6_⟩
           have n7_ : Aside0 (w.heap.size ≤ gb184) := ⟨h7_⟩
           have n8_ : Aside0 (Below w.heap.size w w98) := ⟨h8_⟩
           clear HB
           clear h0_ h1_ h2_ h3_ h4_ h5_ h6_ h7_ h8_
           have BK183 := n0_
           have BK184 := n1_
           have GW183 := n2_
           have GE183 := n3_
           have NB184_183 := n4_
           have NB183_184 := n5_
           have GW184 := n6_
           have GE184 := n7_
           have HB := n8_
           clear n0_ n1_ n2_ n3_ n4_ n5_ n6_ n7_ n8_
           have hHeld : w98.cell? (ad181.add ((x38_2).toNat * 5)) = some (.int .u8 ((rd_T61 l0 x38_2).f0)) ∧ w98.cell? ⟨(ad181.add ((x38_2).toNat * 5)).block, (ad181.add ((x38_2).toNat * 5)).off + 1, none⟩ = some (.string ((rd_T61 l0 x38_2).f1)) ∧ w98.cell? ⟨(ad181.add ((x38_2).toNat * 5)).block, (ad181.add ((x38_2).toNat * 5)).off + 2, none⟩ = some (.int .i64 ((rd_T61 l0 x38_2).f2)) ∧ w98.cell? ⟨(ad181.add ((x38_2).toNat * 5)).block, (ad181.add ((x38_2).toNat * 5)).off + 3, none⟩ = some (.slice A181_3 ((rd_T61 l0 x38_2).f3).length c181_3) ∧ w98.cell? ⟨(ad181.add ((x38_2).toNat * 5)).block, (ad181.add ((x38_2).toNat * 5)).off + 4, none⟩ = some (.int .i64 ((rd_T61 l0 x38_2).f4)) ∧ w98.cell? (ad182.add ((x38_2).toNat * 5)) = some (.int .u8 ((rd_T61 l2 x38_2).f0)) ∧ w98.cell? ⟨(ad182.add ((x38_2).toNat * 5)).block, (ad182.add ((x38_2).toNat * 5)).off + 1, none⟩ = some (.string ((rd_T61 l2 x38_2).f1)) ∧ w98.cell? ⟨(ad182.add ((x38_2).toNat * 5)).block, (ad182.add ((x38_2).toNat * 5)).off + 2, none⟩ = some (.int .i64 ((rd_T61 l2 x38_2).f2)) ∧ w98.cell? ⟨(ad182.add ((x38_2).toNat * 5)).block, (ad182.add ((x38_2).toNat * 5)).off + 3, none⟩ = some (.slice A182_3 ((rd_T61 l2 x38_2).f3).length c182_3) ∧ w98.cell? ⟨(ad182.add ((x38_2).toNat * 5)).block, (ad182.add ((x38_2).toNat * 5)).off + 4, none⟩ = some (.int .i64 ((rd_T61 l2 x38_2).f4)) := hS_
           refine norm_ (a' := ?_) ?_ ?_
           rotate_left
           ·simp only [putAll, Act.put, List.setIfInBounds_toArray, List.set_cons_zero, List.set_cons_succ]
            rfl
           refine one_ (i := 10) (N := none) #[true,true,true,true,true,true,true,true,true,true,true,false] rfl rfl (one_of HT_.out (by kernel_rfl)) (by decide) (fun K hK => ?_)
           have hs99 : w98.cell? ⟨gb183, 0, none⟩ = some (.int .u8 0) := (blk_cell BK183.out 0).trans rfl
           have hfs99 := blk_frozen BK183.out 0
           have hns99_1 := NB184_183.out
           have hms99_1 := NB183_184.out
           have hs100 : w98.cell? ⟨gb183, 1, none⟩ = some (.string (⟨#[]⟩ : ByteArray)) := (blk_cell BK183.out 1).trans rfl
           have hfs100 := blk_frozen BK183.out 1
           have hns100_1 := NB184_183.out
           have hms100_1 := NB183_184.out
           have hs101 : w98.cell? ⟨gb183, 2, none⟩ = some (.int .i64 0) := (blk_cell BK183.out 2).trans rfl
           have hfs101 := blk_frozen BK183.out 2
           have hns101_1 := NB184_183.out
           have hms101_1 := NB183_184.out
           have hs102 : w98.cell? ⟨gb183, 3, none⟩ = some (.slice none 0 0) := (blk_cell BK183.out 3).trans rfl
           have hfs102 := blk_frozen BK183.out 3
           have hns102_1 := NB184_183.out
           have hms102_1 := NB183_184.out
           have hs103 : w98.cell? ⟨gb183, 4, none⟩ = some (.int .i64 0) := (blk_cell BK183.out 4).trans rfl
           have hfs103 := blk_frozen BK183.out 4
           have hns103_1 := NB184_183.out
           have hms103_1 := NB183_184.out
           refine skip_ (w1 := ?_) (by rfl) rfl ?_ ?_
           rotate_left
           ·go_simp
            rfl
           have q10_3 := Nat.ne_of_lt (Nat.lt_of_lt_of_le (World.block_lt_of_cell? _ _ hw181_0) GW183.out)
           have q11_3 := Nat.ne_of_lt (Nat.lt_of_lt_of_le (World.block_lt_of_cell? _ _ hw181_1) GW183.out)
           have q12_3 := Nat.ne_of_lt (Nat.lt_of_lt_of_le (World.block_lt_of_cell? _ _ hw181_2) GW183.out)
           have q13_3 := Nat.ne_of_lt (Nat.lt_of_lt_of_le (World.block_lt_of_cell? _ _ hw181_3) GW183.out)
           have q14_3 := Nat.ne_of_lt (Nat.lt_of_lt_of_le (World.block_lt_of_cell? _ _ hw181_4) GW183.out)
           have q20_3 := Nat.ne_of_lt (Nat.lt_of_lt_of_le (World.block_lt_of_cell? _ _ hw182_0) GW183.out)
           have q21_3 := Nat.ne_of_lt (Nat.lt_of_lt_of_le (World.block_lt_of_cell? _ _ hw182_1) GW183.out)
           have q22_3 := Nat.ne_of_lt (Nat.lt_of_lt_of_le (World.block_lt_of_cell? _ _ hw182_2) GW183.out)
           have q23_3 := Nat.ne_of_lt (Nat.lt_of_lt_of_le (World.block_lt_of_cell? _ _ hw182_3) GW183.out)
           have q24_3 := Nat.ne_of_lt (Nat.lt_of_lt_of_le (World.block_lt_of_cell? _ _ hw182_4) GW183.out)
           refine hK.out _ _ ⟨((cell_far (p := ⟨gb183, _, none⟩) q10_3 _).trans (((cell_far (p := ⟨gb183, _, none⟩) q10_3 _).trans (((cell_far (p := ⟨gb183, _, none⟩) q10_3 _).trans (((cell_far (p := ⟨gb183, _, none⟩) q10_3 _).trans (((cell_far (p := ⟨gb183, _, none⟩) q10_3 _).trans (hHeld.1)))))))))), ((cell_far (p := ⟨gb183, _, none⟩) q11_3 _).trans (((cell_far (p := ⟨gb183, _, none⟩) q11_3 _).trans (((cell_far (p := ⟨gb183, _, none⟩) q11_3 _).trans (((cell_far (p := ⟨gb183, _, none⟩) q11_3 _).trans (((cell_far (p := ⟨gb183, _, none⟩) q11_3 _).trans (hHeld.2.1)))))))))), ((cell_far (p := ⟨gb183, _, none⟩) q12_3 _).trans (((cell_far (p := ⟨gb183, _, none⟩) q12_3 _).trans (((cell_far (p := ⟨gb183, _, none⟩) q12_3 _).trans (((cell_far (p := ⟨gb183, _, none⟩) q12_3 _).trans (((cell_far (p := ⟨gb183, _, none⟩) q12_3 _).trans (hHeld.2.2.1)))))))))), ((cell_far (p := ⟨gb183, _, none⟩) q13_3 _).trans (((cell_far (p := ⟨gb183, _, none⟩) q13_3 _).trans (((cell_far (p := ⟨gb183, _, none⟩) q13_3 _).trans (((cell_far (p := ⟨gb183, _, none⟩) q13_3 _).trans (((cell_far (p := ⟨gb183, _, none⟩) q13_3 _).trans (hHeld.2.2.2.1)))))))))), ((cell_far (p := ⟨gb183, _, none⟩) q14_3 _).trans (((cell_far (p := ⟨gb183, _, none⟩) q14_3 _).trans (((cell_far (p := ⟨gb183, _, none⟩) q14_3 _).trans (((cell_far (p := ⟨gb183, _, none⟩) q14_3 _).trans (((cell_far (p := ⟨gb183, _, none⟩) q14_3 _).trans (hHeld.2.2.2.2.1)))))))))), ((cell_far (p := ⟨gb183, _, none⟩) q20_3 _).trans (((cell_far (p := ⟨gb183, _, none⟩) q20_3 _).trans (((cell_far (p := ⟨gb183, _, none⟩) q20_3 _).trans (((cell_far (p := ⟨gb183, _, none⟩) q20_3 _).trans (((cell_far (p := ⟨gb183, _, none⟩) q20_3 _).trans (hHeld.2.2.2.2.2.1)))))))))), ((cell_far (p := ⟨gb183, _, none⟩) q21_3 _).trans (((cell_far (p := ⟨gb183, _, none⟩) q21_3 _).trans (((cell_far (p := ⟨gb183, _, none⟩) q21_3 _).trans (((cell_far (p := ⟨gb183, _, none⟩) q21_3 _).trans (((cell_far (p := ⟨gb183, _, none⟩) q21_3 _).trans (hHeld.2.2.2.2.2.2.1)))))))))), ((cell_far (p := ⟨gb183, _, none⟩) q22_3 _).trans (((cell_far (p := ⟨gb183, _, none⟩) q22_3 _).trans (((cell_far (p := ⟨gb183, _, none⟩) q22_3 _).trans (((cell_far (p := ⟨gb183, _, none⟩) q22_3 _).trans (((cell_far (p := ⟨gb183, _, none⟩) q22_3 _).trans (hHeld.2.2.2.2.2.2.2.1)))))))))), ((cell_far (p := ⟨gb183, _, none⟩) q23_3 _).trans (((cell_far (p := ⟨gb183, _, none⟩) q23_3 _).trans (((cell_far (p := ⟨gb183, _, none⟩) q23_3 _).trans (((cell_far (p := ⟨gb183, _, none⟩) q23_3 _).trans (((cell_far (p := ⟨gb183, _, none⟩) q23_3 _).trans (hHeld.2.2.2.2.2.2.2.2.1)))))))))), ((cell_far (p := ⟨gb183, _, none⟩) q24_3 _).trans (((cell_far (p := ⟨gb183, _, none⟩) q24_3 _).trans (((cell_far (p := ⟨gb183, _, none⟩) q24_3 _).trans (((cell_far (p := ⟨gb183, _, none⟩) q24_3 _).trans (((cell_far (p := ⟨gb183, _, none⟩) q24_3 _).trans (hHeld.2.2.2.2.2.2.2.2.2))))))))))⟩ (fun hHeld => ?_)
           clear hK K
           refine one_ (i := 11) (N := none) #[true,true,true,true,true,true,true,true,true,true,true,true] rfl rfl (one_of HT_.out (by kernel_rfl)) (by decide) (fun K hK => ?_)
           have hs104 : w98.cell? ⟨gb184, 0, none⟩ = some (.int .u8 0) := (blk_cell BK184.out 0).trans rfl
           have hfs104 := blk_frozen BK184.out 0
           have hns104_0 := NB183_184.out
           have hms104_0 := NB184_183.out
           have hs105 : w98.cell? ⟨gb184, 1, none⟩ = some (.string (⟨#[]⟩ : ByteArray)) := (blk_cell BK184.out 1).trans rfl
           have hfs105 := blk_frozen BK184.out 1
           have hns105_0 := NB183_184.out
           have hms105_0 := NB184_183.out
           have hs106 : w98.cell? ⟨gb184, 2, none⟩ = some (.int .i64 0) := (blk_cell BK184.out 2).trans rfl
           have hfs106 := blk_frozen BK184.out 2
           have hns106_0 := NB183_184.out
           have hms106_0 := NB184_183.out
           have hs107 : w98.cell? ⟨gb184, 3, none⟩ = some (.slice none 0 0) := (blk_cell BK184.out 3).trans rfl
           have hfs107 := blk_frozen BK184.out 3
           have hns107_0 := NB183_184.out
           have hms107_0 := NB184_183.out
           have hs108 : w98.cell? ⟨gb184, 4, none⟩ = some (.int .i64 0) := (blk_cell BK184.out 4).trans rfl
           have hfs108 := blk_frozen BK184.out 4
           have hns108_0 := NB183_184.out
           have hms108_0 := NB184_183.out
           refine skip_ (w1 := ?_) (by rfl) rfl ?_ ?_
           rotate_left
           ·go_simp
            rfl
           have q10_4 := Nat.ne_of_lt (Nat.lt_of_lt_of_le (World.block_lt_of_cell? _ _ hw181_0) GW184.out)
           have q11_4 := Nat.ne_of_lt (Nat.lt_of_lt_of_le (World.block_lt_of_cell? _ _ hw181_1) GW184.out)
           have q12_4 := Nat.ne_of_lt (Nat.lt_of_lt_of_le (World.block_lt_of_cell? _ _ hw181_2) GW184.out)
           have q13_4 := Nat.ne_of_lt (Nat.lt_of_lt_of_le (World.block_lt_of_cell? _ _ hw181_3) GW184.out)
           have q14_4 := Nat.ne_of_lt (Nat.lt_of_lt_of_le (World.block_lt_of_cell? _ _ hw181_4) GW184.out)
           have q20_4 := Nat.ne_of_lt (Nat.lt_of_lt_of_le (World.block_lt_of_cell? _ _ hw182_0) GW184.out)
           have q21_4 := Nat.ne_of_lt (Nat.lt_of_lt_of_le (World.block_lt_of_cell? _ _ hw182_1) GW184.out)
           have q22_4 := Nat.ne_of_lt (Nat.lt_of_lt_of_le (World.block_lt_of_cell? _ _ hw182_2) GW184.out)
           have q23_4 := Nat.ne_of_lt (Nat.lt_of_lt_of_le (World.block_lt_of_cell? _ _ hw182_3) GW184.out)
           have q24_4 := Nat.ne_of_lt (Nat.lt_of_lt_of_le (World.block_lt_of_cell? _ _ hw182_4) GW184.out)
           refine hK.out _ _ ⟨((cell_far (p := ⟨gb184, _, none⟩) q10_4 _).trans (((cell_far (p := ⟨gb184, _, none⟩) q10_4 _).trans (((cell_far (p := ⟨gb184, _, none⟩) q10_4 _).trans (((cell_far (p := ⟨gb184, _, none⟩) q10_4 _).trans (((cell_far (p := ⟨gb184, _, none⟩) q10_4 _).trans (hHeld.1)))))))))), ((cell_far (p := ⟨gb184, _, none⟩) q11_4 _).trans (((cell_far (p := ⟨gb184, _, none⟩) q11_4 _).trans (((cell_far (p := ⟨gb184, _, none⟩) q11_4 _).trans (((cell_far (p := ⟨gb184, _, none⟩) q11_4 _).trans (((cell_far (p := ⟨gb184, _, none⟩) q11_4 _).trans (hHeld.2.1)))))))))), ((cell_far (p := ⟨gb184, _, none⟩) q12_4 _).trans (((cell_far (p := ⟨gb184, _, none⟩) q12_4 _).trans (((cell_far (p := ⟨gb184, _, none⟩) q12_4 _).trans (((cell_far (p := ⟨gb184, _, none⟩) q12_4 _).trans (((cell_far (p := ⟨gb184, _, none⟩) q12_4 _).trans (hHeld.2.2.1)))))))))), ((cell_far (p := ⟨gb184, _, none⟩) q13_4 _).trans (((cell_far (p := ⟨gb184, _, none⟩) q13_4 _).trans (((cell_far (p := ⟨gb184, _, none⟩) q13_4 _).trans (((cell_far (p := ⟨gb184, _, none⟩) q13_4 _).trans (((cell_far (p := ⟨gb184, _, none⟩) q13_4 _).trans (hHeld.2.2.2.1)))))))))), ((cell_far (p := ⟨gb184, _, none⟩) q14_4 _).trans (((cell_far (p := ⟨gb184, _, none⟩) q14_4 _).trans (((cell_far (p := ⟨gb184, _, none⟩) q14_4 _).trans (((cell_far (p := ⟨gb184, _, none⟩) q14_4 _).trans (((cell_far (p := ⟨gb184, _, none⟩) q14_4 _).trans (hHeld.2.2.2.2.1)))))))))), ((cell_far (p := ⟨gb184, _, none⟩) q20_4 _).trans (((cell_far (p := ⟨gb184, _, none⟩) q20_4 _).trans (((cell_far (p := ⟨gb184, _, none⟩) q20_4 _).trans (((cell_far (p := ⟨gb184, _, none⟩) q20_4 _).trans (((cell_far (p := ⟨gb184, _, none⟩) q20_4 _).trans (hHeld.2.2.2.2.2.1)))))))))), ((cell_far (p := ⟨gb184, _, none⟩) q21_4 _).trans (((cell_far (p := ⟨gb184, _, none⟩) q21_4 _).trans (((cell_far (p := ⟨gb184, _, none⟩) q21_4 _).trans (((cell_far (p := ⟨gb184, _, none⟩) q21_4 _).trans (((cell_far (p := ⟨gb184, _, none⟩) q21_4 _).trans (hHeld.2.2.2.2.2.2.1)))))))))), ((cell_far (p := ⟨gb184, _, none⟩) q22_4 _).trans (((cell_far (p := ⟨gb184, _, none⟩) q22_4 _).trans (((cell_far (p := ⟨gb184, _, none⟩) q22_4 _).trans (((cell_far (p := ⟨gb184, _, none⟩) q22_4 _).trans (((cell_far (p := ⟨gb184, _, none⟩) q22_4 _).trans (hHeld.2.2.2.2.2.2.2.1)))))))))), ((cell_far (p := ⟨gb184, _, none⟩) q23_4 _).trans (((cell_far (p := ⟨gb184, _, none⟩) q23_4 _).trans (((cell_far (p := ⟨gb184, _, none⟩) q23_4 _).trans (((cell_far (p := ⟨gb184, _, none⟩) q23_4 _).trans (((cell_far (p := ⟨gb184, _, none⟩) q23_4 _).trans (hHeld.2.2.2.2.2.2.2.2.1)))))))))), ((cell_far (p := ⟨gb184, _, none⟩) q24_4 _).trans (((cell_far (p := ⟨gb184, _, none⟩) q24_4 _).trans (((cell_far (p := ⟨gb184, _, none⟩) q24_4 _).trans (((cell_far (p := ⟨gb184, _, none⟩) q24_4 _).trans (((cell_far (p := ⟨gb184, _, none⟩) q24_4 _).trans (hHeld.2.2.2.2.2.2.2.2.2))))))))))⟩ (fun hHeld => ?_)
           clear hK K
           refine done_ (done_of HT_.out (by kernel_rfl)) ?_
           have hnb109 := NB183_184.out
           have hnc109 := NB184_183.out
           have hcz110_0 : w98.cell? ⟨gb183, 0, none⟩ = some (.int .u8 0) := (blk_cell BK183.out 0).trans rfl
           have hcz110_1 : w98.cell? ⟨gb183, 1, none⟩ = some (.string (⟨#[]⟩ : ByteArray)) := (blk_cell BK183.out 1).trans rfl
           have hcz110_2 : w98.cell? ⟨gb183, 2, none⟩ = some (.int .i64 0) := (blk_cell BK183.out 2).trans rfl
           have hcz110_3 : w98.cell? ⟨gb183, 3, none⟩ = some (.slice none 0 0) := (blk_cell BK183.out 3).trans rfl
           have hcz110_4 : w98.cell? ⟨gb183, 4, none⟩ = some (.int .i64 0) := (blk_cell BK183.out 4).trans rfl
           have hfz110_0 := blk_frozen BK183.out 0
           have hfz110_1 := blk_frozen BK183.out 1
           have hfz110_2 := blk_frozen BK183.out 2
           have hfz110_3 := blk_frozen BK183.out 3
           have hfz110_4 := blk_frozen BK183.out 4
           have hcz111_0 : w98.cell? ⟨gb184, 0, none⟩ = some (.int .u8 0) := (blk_cell BK184.out 0).trans rfl
           have hcz111_1 : w98.cell? ⟨gb184, 1, none⟩ = some (.string (⟨#[]⟩ : ByteArray)) := (blk_cell BK184.out 1).trans rfl
           have hcz111_2 : w98.cell? ⟨gb184, 2, none⟩ = some (.int .i64 0) := (blk_cell BK184.out 2).trans rfl
           have hcz111_3 : w98.cell? ⟨gb184, 3, none⟩ = some (.slice none 0 0) := (blk_cell BK184.out 3).trans rfl
           have hcz111_4 : w98.cell? ⟨gb184, 4, none⟩ = some (.int .i64 0) := (blk_cell BK184.out 4).trans rfl
           have hfz111_0 := blk_frozen BK184.out 0
           have hfz111_1 := blk_frozen BK184.out 1
           have hfz111_2 := blk_frozen BK184.out 2
           have hfz111_3 := blk_frozen BK184.out 3
           have hfz111_4 := blk_frozen BK184.out 4
           try go_wp2
           go_ret
           exact ⟨by first | rfl | (simp [errW_none, errW_some] <;> rfl) | (simp [*, errW_none, errW_some] <;> rfl), by repeat (first | (with_reducible first | exact HB.out | apply below_alloc | apply pw_below_drewN | apply below_drew1 | refine below_set ?_ GE183.out | refine below_set ?_ GE184.out) | exact HB.out)⟩
         ·rw [if_neg c22] at H
          exact absurd H (by simp)
        ·rw [if_neg c21] at H
         exact absurd H (by simp)
       ·rw [if_neg c20] at H
        exact absurd H (by simp)
      ·rw [if_neg c19] at H
       have c19b0 : decide (x38_2 < (l0.length : Int)) = false := decide_eq_false c19
       clear c19
       obtain rfl := Option.some.inj H
       go_wp2
       go_ret
       exact ⟨by first | rfl | (simp [errW_none, errW_some] <;> rfl) | (simp [*, errW_none, errW_some] <;> rfl), by repeat (first | (with_reducible first | exact HB.out | apply below_alloc | apply pw_below_drewN | apply below_drew1) | exact HB.out | exact Below.refl _ _)⟩

end Go.Proofs.YtldjbgonlbmeaaaDoor.PC
