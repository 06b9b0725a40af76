-- Machine-made walks, written for this claim by a program of this session (plug.py).
import Derived.Test.YtldjbgonlbmeaaaPCx0
import Derived.Test.YtldjbgonlbmeaaaPCx1
namespace Go.Proofs.Ytldjbgonlbmeaaa.PC
open Go.RowKit Go.Proofs.Ytldjbgonlbmeaaa.PA Go.Proofs.Ytldjbgonlbmeaaa.T Go.Proofs.Ytldjbgonlbmeaaa.Nm Go.Proofs.Ytldjbgonlbmeaaa.Dig Go.Proofs.Ytldjbgonlbmeaaa.PB Go.Proofs.YtldjbgonlbmeaaaW.PrintWords Go.Proofs.YtldjbgonlbmeaaaW.PrintLast Go.Proofs.YtldjbgonlbmeaaaW.PrintMore
attribute [local go_sem] max2_int min2_int max_two min_two max_three min_three max_four min_four   -- for this text's walks alone
set_option linter.unusedVariables false
set_option linter.unusedSimpArgs false

/-! ### reticulelaw08_ShowLines: function 3 -/
mutual
def reticulelaw08_ShowLines.j0 : Nat → ByteArray → Option (Bool)
 | 0, _ => none
 | k + 1, x0 => (reticulelaw08_read.f k x0).bind fun bt129 => (if bt129.2.2 = true then ((show_Print.f k bt129.1 bt129.2.1).bind fun bt137 => ((show_Pretty.f k bt129.1 bt129.2.1).bind fun bt139 => (reticulelaw08_ShowLines.l0 k bt129.1 bt129.2.1 bt137.1 bt139.1 0 0))) else ((reticulelaw08_live.f k).bind fun t136 => (some t136)))
def reticulelaw08_ShowLines.l0 : Nat → List (S33) → List Int → ByteArray → ByteArray → Int → Int → Option (Bool)
 | 0, _, _, _, _, _, _ => none
 | k + 1, x3, x4, x6, x8, x10, x11 => if x11 < (x3.length : Int) then (if 0 ≤ x11 then (if ((rd_T33 x3 x11).f0) = 1 then (reticulelaw08_ShowLines.l0 k x3 x4 x6 x8 (wrap64 (x10 + 1)) (wrap64 (x11 + 1))) else (reticulelaw08_ShowLines.l0 k x3 x4 x6 x8 x10 (wrap64 (x11 + 1)))) else (none)) else ((reticulelaw08_live.f k).bind fun t142 => (if t142 = true then ((show_Lines.f x6).bind fun t143 => (if t143 = (wrap64 ((x4.length : Int) + 1)) then ((show_Lines.f x8).bind fun t144 => (if t144 ≥ (wrap64 ((x4.length : Int) + 1)) then (if t144 ≤ (wrap64 ((x3.length : Int) + 1)) then (some (decide (x10 ≤ (x3.length : Int)))) else (some false)) else (some false))) else (some false))) else (some false)))
end
def reticulelaw08_ShowLines.f (k : Nat) (a0 : ByteArray) : Option (Bool) := if (a0.size : Int) > 700 then (if 0 ≤ 700 then (if 700 ≤ (a0.size : Int) then (reticulelaw08_ShowLines.j0 k (a0.extract 0 700)) else (none)) else (none)) else (reticulelaw08_ShowLines.j0 k a0)
theorem reticulelaw08_ShowLines.mono_l : ∀ k, (∀ y0, LeO (reticulelaw08_ShowLines.j0 k y0) (reticulelaw08_ShowLines.j0 (k + 1) y0)) ∧ (∀ y0 y1 y2 y3 y4 y5, LeO (reticulelaw08_ShowLines.l0 k y0 y1 y2 y3 y4 y5) (reticulelaw08_ShowLines.l0 (k + 1) y0 y1 y2 y3 y4 y5))
 | 0 => ⟨fun _ r h => by simp [reticulelaw08_ShowLines.j0] at h, fun _ _ _ _ _ _ r h => by simp [reticulelaw08_ShowLines.l0] at h⟩
 | k + 1 => by
  obtain ⟨ih0, ih1⟩ := reticulelaw08_ShowLines.mono_l k
  refine ⟨?_, ?_⟩
  ·intro y0
   unfold reticulelaw08_ShowLines.j0
   repeat' first
   | (with_reducible exact ih0 _)
   | (with_reducible exact ih1 _ _ _ _ _ _)
   | (with_reducible exact reticulelaw08_live.mono _)
   | (with_reducible exact reticulelaw08_read.mono _ _)
   | (with_reducible exact show_Pretty.mono _ _ _)
   | (with_reducible exact show_Print.mono _ _ _)
   | (with_reducible exact LeO.refl _)
   | (with_reducible exact LeO.none _)
   | (with_reducible refine LeO.ite ?_ ?_)
   | (with_reducible refine LeO.bind ?_ (fun _ => ?_))
   | exact ih0 _
   | exact ih1 _ _ _ _ _ _
   | exact reticulelaw08_live.mono _
   | exact reticulelaw08_read.mono _ _
   | exact show_Pretty.mono _ _ _
   | exact show_Print.mono _ _ _
   | exact LeO.none _
   | refine LeO.ite ?_ ?_
   | refine LeO.bind ?_ (fun _ => ?_)
  ·intro y0 y1 y2 y3 y4 y5
   unfold reticulelaw08_ShowLines.l0
   repeat' first
   | (with_reducible exact ih0 _)
   | (with_reducible exact ih1 _ _ _ _ _ _)
   | (with_reducible exact reticulelaw08_live.mono _)
   | (with_reducible exact reticulelaw08_read.mono _ _)
   | (with_reducible exact show_Pretty.mono _ _ _)
   | (with_reducible exact show_Print.mono _ _ _)
   | (with_reducible exact LeO.refl _)
   | (with_reducible exact LeO.none _)
   | (with_reducible refine LeO.ite ?_ ?_)
   | (with_reducible refine LeO.bind ?_ (fun _ => ?_))
   | exact ih0 _
   | exact ih1 _ _ _ _ _ _
   | exact reticulelaw08_live.mono _
   | exact reticulelaw08_read.mono _ _
   | exact show_Pretty.mono _ _ _
   | exact show_Print.mono _ _ _
   | exact LeO.none _
   | refine LeO.ite ?_ ?_
   | refine LeO.bind ?_ (fun _ => ?_)
theorem reticulelaw08_ShowLines.mono : ∀ a0 k, LeO (reticulelaw08_ShowLines.f k a0) (reticulelaw08_ShowLines.f (k + 1) a0) := by
 intro a0 k
 obtain ⟨ih0, ih1⟩ := reticulelaw08_ShowLines.mono_l k
 unfold reticulelaw08_ShowLines.f
 repeat' first
   | (with_reducible exact ih0 _)
   | (with_reducible exact ih1 _ _ _ _ _ _)
   | (with_reducible exact reticulelaw08_live.mono _)
   | (with_reducible exact reticulelaw08_read.mono _ _)
   | (with_reducible exact show_Pretty.mono _ _ _)
   | (with_reducible exact show_Print.mono _ _ _)
   | (with_reducible exact LeO.refl _)
   | (with_reducible exact LeO.none _)
   | (with_reducible refine LeO.ite ?_ ?_)
   | (with_reducible refine LeO.bind ?_ (fun _ => ?_))
   | exact ih0 _
   | exact ih1 _ _ _ _ _ _
   | exact reticulelaw08_live.mono _
   | exact reticulelaw08_read.mono _ _
   | exact show_Pretty.mono _ _ _
   | exact show_Print.mono _ _ _
   | exact LeO.none _
   | refine LeO.ite ?_ ?_
   | refine LeO.bind ?_ (fun _ => ?_)
set_option maxHeartbeats 8000000 in
set_option maxRecDepth 100000 in
theorem reticulelaw08_ShowLines.calls (k : Nat) (a0 : ByteArray) (r : Bool) (w : World) (h : reticulelaw08_ShowLines.f k a0 = some r) :
  Calls Try.prog 3 #[.string a0] w fun e w' => e = .returned (.bool r) ∧ Below w.heap.size w w' := by
 have HB := Aside0.mk (Below.refl w.heap.size w)
 have H : (if (a0.size : Int) > 700 then (if 0 ≤ 700 then (if 700 ≤ (a0.size : Int) then (reticulelaw08_ShowLines.j0 k (a0.extract 0 700)) else (none)) else (none)) else (reticulelaw08_ShowLines.j0 k a0)) = some r := h
 clear h
 have HC2 := Aside0.mk H
 clear H
 go_enter Try.func3, Try.ntmps3
 go_upto_if 14 with (fail)
 go_cut [0] (fun v0 wc => ∃ (kq : Nat) (x0_1 : ByteArray), v0 = .string x0_1 ∧ Aside0 (reticulelaw08_ShowLines.j0 kq x0_1 = some r) ∧ Aside0 (kq ≤ k) ∧ Aside0 (Below w.heap.size w wc))
 case first =>
  have H := HC2.out
  clear HC2
  by_cases c3 : (a0.size : Int) > 700
  ·rw [if_pos c3] at H
   have c3b0 : decide (700 < (a0.size : Int)) = true := decide_eq_true c3
   have c3b1 : decide (700 < a0.size) = true := decide_eq_true (by omega)
   clear c3
   (first | rw [c3b0] | (simp only [i64_w, i32_w]; rw [c3b0]) | skip)
   by_cases c4 : 0 ≤ 700
   ·rw [if_pos c4] at H
    have c4b0 := eq_true c4
    have c4b1 : decide (0 ≤ 700) = true := decide_eq_true c4
    clear c4
    by_cases c5 : 700 ≤ (a0.size : Int)
    ·rw [if_pos c5] at H
     have c5b0 := eq_true c5
     have c5b1 : decide (700 ≤ (a0.size : Int)) = true := decide_eq_true c5
     clear c5
     have H' := Aside0.mk H
     clear H
     go_wp2
     go_meet
     case rel => exact ⟨_, (a0.extract 0 700), (by first | rfl | (simp; done) | (simp [*]; done)), H', ⟨by first | omega | exact Nat.le_refl _⟩, ⟨by repeat (first | (with_reducible first | exact HB.out | apply below_alloc | apply pw_below_drewN | apply below_drew1) | exact HB.out | exact Below.refl _ _)⟩⟩
    ·rw [if_neg c5] at H
     exact absurd H (by simp)
   ·rw [if_neg c4] at H
    exact absurd H (by simp)
  ·rw [if_neg c3] at H
   have c3b0 : decide (700 < (a0.size : Int)) = false := decide_eq_false c3
   have c3b1 : decide (700 < a0.size) = false := decide_eq_false (by omega)
   clear c3
   (first | rw [c3b0] | (simp only [i64_w, i32_w]; rw [c3b0]) | skip)
   have H' := Aside0.mk H
   clear H
   go_wp2
   go_meet
   case rel => exact ⟨_, (a0), (by first | rfl | (simp; done) | (simp [*]; done)), H', ⟨by first | omega | exact Nat.le_refl _⟩, ⟨by repeat (first | (with_reducible first | exact HB.out | apply below_alloc | apply pw_below_drewN | apply below_drew1) | exact HB.out | exact Below.refl _ _)⟩⟩
 case rest =>
  clear HC2
  try clear p2
  try clear c3
  try clear c3b0
  try clear c3b1
  try clear c4
  try clear c4b0
  try clear c4b1
  try clear c5
  try clear c5b0
  try clear c5b1
  obtain ⟨kq, x0_1, rfl, HA, HJ1, HB⟩ := hcut
  cases kq with
  | zero => exact absurd HA.out (by simp [reticulelaw08_ShowLines.j0])
  | succ kj1 =>
   have H := HA.out
   clear HA
   simp only [reticulelaw08_ShowLines.j0] at H
   replace H := Option.bind_eq_some_iff.mp H
   obtain ⟨⟨t129, t130, t131⟩, A60, H⟩ := H
   replace H : (if t131 = true then ((show_Print.f kj1 t129 t130).bind fun bt137 => ((show_Pretty.f kj1 t129 t130).bind fun bt139 => (reticulelaw08_ShowLines.l0 kj1 t129 t130 bt137.1 bt139.1 0 0))) else ((reticulelaw08_live.f kj1).bind fun t136 => (some t136))) = some r := H
   have A6 := Aside0.mk A60
   clear A60
   by_cases c7 : t131 = true
   ·subst c7
    have H1 : ((show_Print.f kj1 t129 t130).bind fun bt137 => ((show_Pretty.f kj1 t129 t130).bind fun bt139 => (reticulelaw08_ShowLines.l0 kj1 t129 t130 bt137.1 bt139.1 0 0))) = some r := by rw [if_pos rfl] at H; exact H
    clear H
    have H := H1
    clear H1
    replace H := Option.bind_eq_some_iff.mp H
    obtain ⟨⟨t137, t138⟩, A80, H⟩ := H
    replace H : ((show_Pretty.f kj1 t129 t130).bind fun bt139 => (reticulelaw08_ShowLines.l0 kj1 t129 t130 t137 bt139.1 0 0)) = some r := H
    have A8 := Aside0.mk A80
    clear A80
    replace H := Option.bind_eq_some_iff.mp H
    obtain ⟨⟨t139, t140⟩, A90, H⟩ := H
    replace H : (reticulelaw08_ShowLines.l0 kj1 t129 t130 t137 t139 0 0) = some r := H
    have A9 := Aside0.mk A90
    clear A90
    have H' := Aside0.mk H
    clear H
    go_wp2_with (first | ((with_reducible refine gate_callee (f := 5) rfl ?_); refine goesL_ (some 19) rfl rfl Try.func5 (by kernel_rfl) rfl #[.string x0_1] rfl (by (try simp only [List.map_toArray, List.map_cons, List.map_nil]); first | done | rfl | (simp only [List.length_drop, List.length_take]; rfl)) ?_; (with_reducible refine (reticulelaw08_read.calls kj1 x0_1 t129 t130 true _ A6.out).mono ?_); rintro e w10 ⟨v132, v134, rfl, ho0, ho1, hb⟩; refine ⟨_, rfl, ?_⟩; have n0_ := Aside0.mk (Kd.S_lower ho0 (below_size (by repeat (first | (with_reducible first | exact HB.out | apply below_alloc | apply pw_below_drewN | apply below_drew1) | exact HB.out | exact Below.refl _ _)))); have n1_ := Aside0.mk (Kd.R_lower ho1 (below_size (by repeat (first | (with_reducible first | exact HB.out | apply below_alloc | apply pw_below_drewN | apply below_drew1) | exact HB.out | exact Below.refl _ _)))); have n2_ := Aside0.mk (below_step (by repeat (first | (with_reducible first | exact HB.out | apply below_alloc | apply pw_below_drewN | apply below_drew1) | exact HB.out | exact Below.refl _ _)) hb); clear HB; have HO133 := n0_; have HO135 := n1_; have HB := n2_; clear n0_ n1_ n2_; (try clear hb); (try clear hb2); (try clear hk); (try clear hi); (try clear ho0); (try clear ho1); obtain ⟨Ao11, co11, eo11⟩ := Kd.S_slice HO133.out; subst eo11; obtain ⟨Ao12, co12, eo12⟩ := Kd.R_slice HO135.out; subst eo12) | ((with_reducible refine gate_callee (f := 7) rfl ?_); refine goesL_ (some 29) rfl rfl Try.func7 (by kernel_rfl) rfl #[.slice Ao11 t129.length co11, .slice Ao12 t130.length co12] rfl (by (try simp only [List.map_toArray, List.map_cons, List.map_nil]); first | done | rfl | (simp only [List.length_drop, List.length_take]; rfl)) ?_; (with_reducible refine (show_Print.calls kj1 _ _ t129 _ _ t130 t137 t138 _ ?side1 ?side2 ?side3 ?side4 A8.out).mono ?_); (case side1 => repeat (first | exact (Kd.S_reads' HO133.out).2.2 | (with_reducible refine Kd.C_alloc ?_ _) | (with_reducible refine Kd.C_drewN ?_ _) | (with_reducible refine Kd.C_drew ?_))); (case side2 => exact (Kd.S_reads' HO133.out).2.1); (case side3 => repeat (first | exact (Kd.R_reads' HO135.out).2.2 | (with_reducible refine Kd.C_alloc ?_ _) | (with_reducible refine Kd.C_drewN ?_ _) | (with_reducible refine Kd.C_drew ?_))); (case side4 => exact (Kd.R_reads' HO135.out).2.1); rintro e w13 ⟨rfl, hb⟩; refine ⟨_, rfl, ?_⟩; have n0_ := Aside0.mk (Kd.S_below (by (with_reducible repeat (first | apply Kd.S_alloc | apply Kd.S_drewN | apply Kd.S_drew)); exact HO133.out) hb); have n1_ := Aside0.mk (Kd.R_below (by (with_reducible repeat (first | apply Kd.R_alloc | apply Kd.R_drewN | apply Kd.R_drew)); exact HO135.out) hb); have n2_ := Aside0.mk (below_step (by repeat (first | (with_reducible first | exact HB.out | apply below_alloc | apply pw_below_drewN | apply below_drew1) | exact HB.out | exact Below.refl _ _)) hb); clear HO133; clear HO135; clear HB; have HO133 := n0_; have HO135 := n1_; have HB := n2_; clear n0_ n1_ n2_; (try clear hb); (try clear hb2); (try clear hk); (try clear hi)) | ((with_reducible refine gate_callee (f := 8) rfl ?_); refine goesL_ (some 35) rfl rfl Try.func8 (by kernel_rfl) rfl #[.slice Ao11 t129.length co11, .slice Ao12 t130.length co12] rfl (by (try simp only [List.map_toArray, List.map_cons, List.map_nil]); first | done | rfl | (simp only [List.length_drop, List.length_take]; rfl)) ?_; (with_reducible refine (show_Pretty.calls kj1 _ _ t129 _ _ t130 t139 t140 _ ?side1 ?side2 ?side3 ?side4 A9.out).mono ?_); (case side1 => repeat (first | exact (Kd.S_reads' HO133.out).2.2 | (with_reducible refine Kd.C_alloc ?_ _) | (with_reducible refine Kd.C_drewN ?_ _) | (with_reducible refine Kd.C_drew ?_))); (case side2 => exact (Kd.S_reads' HO133.out).2.1); (case side3 => repeat (first | exact (Kd.R_reads' HO135.out).2.2 | (with_reducible refine Kd.C_alloc ?_ _) | (with_reducible refine Kd.C_drewN ?_ _) | (with_reducible refine Kd.C_drew ?_))); (case side4 => exact (Kd.R_reads' HO135.out).2.1); rintro e w14 ⟨rfl, hb⟩; refine ⟨_, rfl, ?_⟩; have n0_ := Aside0.mk (Kd.S_below (by (with_reducible repeat (first | apply Kd.S_alloc | apply Kd.S_drewN | apply Kd.S_drew)); exact HO133.out) hb); have n1_ := Aside0.mk (Kd.R_below (by (with_reducible repeat (first | apply Kd.R_alloc | apply Kd.R_drewN | apply Kd.R_drew)); exact HO135.out) hb); have n2_ := Aside0.mk (below_step (by repeat (first | (with_reducible first | exact HB.out | apply below_alloc | apply pw_below_drewN | apply below_drew1) | exact HB.out | exact Below.refl _ _)) hb); clear HO133; clear HO135; clear HB; have HO133 := n0_; have HO135 := n1_; have HB := n2_; clear n0_ n1_ n2_; (try clear hb); (try clear hb2); (try clear hk); (try clear hi)))
    go_loopg [10, 11] kj1 (fun kq v10 v11 w' => ∃ (x10_2 : Int) (x11_2 : Int), v10 = .int .i64 x10_2 ∧ v11 = .int .i64 x11_2 ∧ Aside0 (reticulelaw08_ShowLines.l0 kq t129 t130 t137 t139 x10_2 x11_2 = some r) ∧ Aside0 (kq ≤ kj1) ∧ Aside0 (Kd.S k33 33 w' w.heap.size (fun k_ => some k_ ≠ ((.slice Ao12 t130.length co12) : Value).ownBlock) (.slice Ao11 t129.length co11) t129) ∧ Aside0 (Kd.R (Kd.int .i64) 3 w' w.heap.size (fun _ => True) (.slice Ao12 t130.length co12) t130) ∧ Aside0 (Below w.heap.size w w'))
    case atStart => exact ⟨(0), (0), (by first | rfl | (simp; done) | (simp [*]; done)), (by first | rfl | (simp; done) | (simp [*]; done)), H', ⟨Nat.le_refl _⟩, ⟨by (with_reducible repeat (first | apply Kd.S_alloc | apply Kd.S_drewN | apply Kd.S_drew)); exact HO133.out⟩, ⟨by (with_reducible repeat (first | apply Kd.R_alloc | apply Kd.R_drewN | apply Kd.R_drew)); exact HO135.out⟩, ⟨by repeat (first | (with_reducible first | exact HB.out | apply below_alloc | apply pw_below_drewN | apply below_drew1) | exact HB.out | exact Below.refl _ _)⟩⟩
    case round =>
     clear H'
     try clear p2
     try clear c3
     try clear c3b0
     try clear c3b1
     try clear c4
     try clear c4b0
     try clear c4b1
     try clear c5
     try clear c5b0
     try clear c5b1
     try clear c7
     try clear c8
     try clear p2
     obtain ⟨x10_2, x11_2, rfl, rfl, HA, HK2, HO_3, HO_4, HB⟩ := hrel
     cases gk with
     | zero => exact absurd HA.out (by simp [reticulelaw08_ShowLines.l0])
     | succ k2 =>
      have H := HA.out
      clear HA
      simp only [reticulelaw08_ShowLines.l0] at H
      by_cases c15 : x11_2 < (t129.length : Int)
      ·rw [if_pos c15] at H
       have c15b0 : decide (x11_2 < (t129.length : Int)) = true := decide_eq_true c15
       clear c15
       by_cases c16 : 0 ≤ x11_2
       ·rw [if_pos c16] at H
        have c16b0 : decide (0 ≤ x11_2) = true := decide_eq_true c16
        clear c16
        by_cases c17 : ((rd_T33 t129 x11_2).f0) = 1
        ·rw [if_pos c17] at H
         have c17b0 : (((rd_T33 t129 x11_2).f0) == 1) = true := beq_iff_eq.mpr c17
         have c17b1 : (((rd_T33 t129 x11_2).f0) != 1) = false := bne_eq_false_iff_eq.mpr c17
         clear c17
         have H' := Aside0.mk H
         clear H
         have p141 : 0 ≤ (x11_2 : Int) := of_decide_eq_true (by first | (with_reducible assumption) | assumption)
         have q141 : x11_2 < (t129.length : Int) := of_decide_eq_true (by first | (with_reducible assumption) | assumption)
         obtain ⟨ad141, A141_3, c141_3, e141, hx141_0, hx141_1, hx141_2, hx141_3, hx141_4, hl141_3, hi141_3⟩ := at_T33 (Kd.S_reads' HO_3.out).2.2 x11_2 p141 q141
         cases e141
         obtain ⟨ce141, hce141, hMe141, hcc141⟩ := Kd.S_get HO_3.out z33 x11_2 p141 (by first | exact q141 | exact of_decide_eq_true (by first | (with_reducible assumption) | assumption) | (have e_ := (Kd.S_reads' HO_3.out).1; omega))
         obtain ⟨ve141_3, rfl, ge141_3⟩ := k33_openM hMe141
         have hv141_3 := hcc141 3 _ rfl
         rw [add_field _ _ 3 (by omega)] at hv141_3
         replace hv141_3 := Option.some.inj (hv141_3.symm.trans hx141_3)
         rw [hv141_3] at ge141_3
         have HL141_3 := Aside0.mk (show Kd.R (Kd.int .i64) 3 _ _ _ _ ((rd_T33 t129 x11_2).f3) from ge141_3)
         clear hv141_3 ge141_3
         clear hcc141 hce141
         have HR141_3 := Aside0.mk hi141_3
         have HC141_3 := Aside0.mk hl141_3
         clear hi141_3 hl141_3
         replace p141 := eq_true p141
         replace q141 := eq_true q141
         go_wp2
         go_roundg k2
         case measure => have := HJ1.out; have := HK2.out; omega
         case rel => exact ⟨(wrap64 (x10_2 + 1)), (wrap64 (x11_2 + 1)), (by first | rfl | (simp; done) | (simp [*]; done)), (by first | rfl | (simp; done) | (simp [*]; done)), H', ⟨by have := HJ1.out; have := HK2.out; omega⟩, ⟨by (with_reducible repeat (first | apply Kd.S_alloc | apply Kd.S_drewN | apply Kd.S_drew)); exact HO_3.out⟩, ⟨by (with_reducible repeat (first | apply Kd.R_alloc | apply Kd.R_drewN | apply Kd.R_drew)); exact HO_4.out⟩, ⟨by repeat (first | (with_reducible first | exact HB.out | apply below_alloc | apply pw_below_drewN | apply below_drew1) | exact HB.out | exact Below.refl _ _)⟩⟩
        ·rw [if_neg c17] at H
         have c17b0 : (((rd_T33 t129 x11_2).f0) == 1) = false := beq_eq_false_iff_ne.mpr c17
         have c17b1 : (((rd_T33 t129 x11_2).f0) != 1) = true := bne_iff_ne.mpr c17
         have H' := Aside0.mk H
         clear H
         have p141 : 0 ≤ (x11_2 : Int) := of_decide_eq_true (by first | (with_reducible assumption) | assumption)
         have q141 : x11_2 < (t129.length : Int) := of_decide_eq_true (by first | (with_reducible assumption) | assumption)
         obtain ⟨ad141, A141_3, c141_3, e141, hx141_0, hx141_1, hx141_2, hx141_3, hx141_4, hl141_3, hi141_3⟩ := at_T33 (Kd.S_reads' HO_3.out).2.2 x11_2 p141 q141
         cases e141
         obtain ⟨ce141, hce141, hMe141, hcc141⟩ := Kd.S_get HO_3.out z33 x11_2 p141 (by first | exact q141 | exact of_decide_eq_true (by first | (with_reducible assumption) | assumption) | (have e_ := (Kd.S_reads' HO_3.out).1; omega))
         obtain ⟨ve141_3, rfl, ge141_3⟩ := k33_openM hMe141
         have hv141_3 := hcc141 3 _ rfl
         rw [add_field _ _ 3 (by omega)] at hv141_3
         replace hv141_3 := Option.some.inj (hv141_3.symm.trans hx141_3)
         rw [hv141_3] at ge141_3
         have HL141_3 := Aside0.mk (show Kd.R (Kd.int .i64) 3 _ _ _ _ ((rd_T33 t129 x11_2).f3) from ge141_3)
         clear hv141_3 ge141_3
         clear hcc141 hce141
         have HR141_3 := Aside0.mk hi141_3
         have HC141_3 := Aside0.mk hl141_3
         clear hi141_3 hl141_3
         replace p141 := eq_true p141
         replace q141 := eq_true q141
         go_wp2
         go_roundg k2
         case measure => have := HJ1.out; have := HK2.out; omega
         case rel => exact ⟨(x10_2), (wrap64 (x11_2 + 1)), (by first | rfl | (simp; done) | (simp [*]; done)), (by first | rfl | (simp; done) | (simp [*]; done)), H', ⟨by have := HJ1.out; have := HK2.out; omega⟩, ⟨by (with_reducible repeat (first | apply Kd.S_alloc | apply Kd.S_drewN | apply Kd.S_drew)); exact HO_3.out⟩, ⟨by (with_reducible repeat (first | apply Kd.R_alloc | apply Kd.R_drewN | apply Kd.R_drew)); exact HO_4.out⟩, ⟨by repeat (first | (with_reducible first | exact HB.out | apply below_alloc | apply pw_below_drewN | apply below_drew1) | exact HB.out | exact Below.refl _ _)⟩⟩
       ·rw [if_neg c16] at H
        exact absurd H (by simp)
      ·rw [if_neg c15] at H
       have c15b0 : decide (x11_2 < (t129.length : Int)) = false := decide_eq_false c15
       clear c15
       replace H := Option.bind_eq_some_iff.mp H
       obtain ⟨t142, A180, H⟩ := H
       replace H : (if t142 = true then ((show_Lines.f t137).bind fun t143 => (if t143 = (wrap64 ((t130.length : Int) + 1)) then ((show_Lines.f t139).bind fun t144 => (if t144 ≥ (wrap64 ((t130.length : Int) + 1)) then (if t144 ≤ (wrap64 ((t129.length : Int) + 1)) then (some (decide (x10_2 ≤ (t129.length : Int)))) else (some false)) else (some false))) else (some false))) else (some false)) = some r := H
       have A18 := Aside0.mk A180
       clear A180
       by_cases c19 : t142 = true
       ·subst c19
        have H1 : ((show_Lines.f t137).bind fun t143 => (if t143 = (wrap64 ((t130.length : Int) + 1)) then ((show_Lines.f t139).bind fun t144 => (if t144 ≥ (wrap64 ((t130.length : Int) + 1)) then (if t144 ≤ (wrap64 ((t129.length : Int) + 1)) then (some (decide (x10_2 ≤ (t129.length : Int)))) else (some false)) else (some false))) else (some false))) = some r := by rw [if_pos rfl] at H; exact H
        clear H
        have H := H1
        clear H1
        replace H := Option.bind_eq_some_iff.mp H
        obtain ⟨t143, A200, H⟩ := H
        replace H : (if t143 = (wrap64 ((t130.length : Int) + 1)) then ((show_Lines.f t139).bind fun t144 => (if t144 ≥ (wrap64 ((t130.length : Int) + 1)) then (if t144 ≤ (wrap64 ((t129.length : Int) + 1)) then (some (decide (x10_2 ≤ (t129.length : Int)))) else (some false)) else (some false))) else (some false)) = some r := H
        have A20 := Aside0.mk A200
        clear A200
        by_cases c21 : t143 = (wrap64 ((t130.length : Int) + 1))
        ·rw [if_pos c21] at H
         have c21b0 : (t143 == (wrap64 ((t130.length : Int) + 1))) = true := beq_iff_eq.mpr c21
         have c21b1 : (t143 != (wrap64 ((t130.length : Int) + 1))) = false := bne_eq_false_iff_eq.mpr c21
         clear c21
         replace H := Option.bind_eq_some_iff.mp H
         obtain ⟨t144, A220, H⟩ := H
         replace H : (if t144 ≥ (wrap64 ((t130.length : Int) + 1)) then (if t144 ≤ (wrap64 ((t129.length : Int) + 1)) then (some (decide (x10_2 ≤ (t129.length : Int)))) else (some false)) else (some false)) = some r := H
         have A22 := Aside0.mk A220
         clear A220
         by_cases c23 : t144 ≥ (wrap64 ((t130.length : Int) + 1))
         ·rw [if_pos c23] at H
          have c23b0 : decide ((wrap64 ((t130.length : Int) + 1)) ≤ t144) = true := decide_eq_true c23
          clear c23
          by_cases c24 : t144 ≤ (wrap64 ((t129.length : Int) + 1))
          ·rw [if_pos c24] at H
           have c24b0 : decide (t144 ≤ (wrap64 ((t129.length : Int) + 1))) = true := decide_eq_true c24
           clear c24
           obtain rfl := Option.some.inj H
           go_wp2_with (first | ((with_reducible refine gate_callee (f := 6) rfl ?_); refine goesL_ (some 52) rfl rfl Try.func6 (by kernel_rfl) rfl #[] rfl (by (try simp only [List.map_toArray, List.map_cons, List.map_nil]); first | done | rfl | (simp only [List.length_drop, List.length_take]; rfl)) ?_; (with_reducible refine (reticulelaw08_live.calls k2  true _ A18.out).mono ?_); rintro e w25 ⟨rfl, hb⟩; refine ⟨_, rfl, ?_⟩; have n0_ := Aside0.mk (Kd.S_below (by (with_reducible repeat (first | apply Kd.S_alloc | apply Kd.S_drewN | apply Kd.S_drew)); exact HO_3.out) hb); have n1_ := Aside0.mk (Kd.R_below (by (with_reducible repeat (first | apply Kd.R_alloc | apply Kd.R_drewN | apply Kd.R_drew)); exact HO_4.out) hb); have n2_ := Aside0.mk (below_step (by repeat (first | (with_reducible first | exact HB.out | apply below_alloc | apply pw_below_drewN | apply below_drew1) | exact HB.out | exact Below.refl _ _)) hb); clear HO_3; clear HO_4; clear HB; have HO_3 := n0_; have HO_4 := n1_; have HB := n2_; clear n0_ n1_ n2_; (try clear hb); (try clear hb2); (try clear hk); (try clear hi)) | (go_at_call 9; (with_reducible refine (show_Lines.calls t137 t143 _ A20.out).mono ?_); rintro e w' ⟨rfl, ⟨nd, rfl⟩⟩) | (go_at_call 9; (with_reducible refine (show_Lines.calls t139 t144 _ A22.out).mono ?_); rintro e w' ⟨rfl, ⟨nd, rfl⟩⟩))
           go_ret
           exact ⟨by first | rfl | (simp [errW_none, errW_some] <;> rfl) | (simp [*, errW_none, errW_some] <;> rfl), by repeat (first | (with_reducible first | exact HB.out | apply below_alloc | apply pw_below_drewN | apply below_drew1) | exact HB.out | exact Below.refl _ _)⟩
          ·rw [if_neg c24] at H
           have c24b0 : decide (t144 ≤ (wrap64 ((t129.length : Int) + 1))) = false := decide_eq_false c24
           clear c24
           obtain rfl := Option.some.inj H
           go_wp2_with (first | ((with_reducible refine gate_callee (f := 6) rfl ?_); refine goesL_ (some 52) rfl rfl Try.func6 (by kernel_rfl) rfl #[] rfl (by (try simp only [List.map_toArray, List.map_cons, List.map_nil]); first | done | rfl | (simp only [List.length_drop, List.length_take]; rfl)) ?_; (with_reducible refine (reticulelaw08_live.calls k2  true _ A18.out).mono ?_); rintro e w26 ⟨rfl, hb⟩; refine ⟨_, rfl, ?_⟩; have n0_ := Aside0.mk (Kd.S_below (by (with_reducible repeat (first | apply Kd.S_alloc | apply Kd.S_drewN | apply Kd.S_drew)); exact HO_3.out) hb); have n1_ := Aside0.mk (Kd.R_below (by (with_reducible repeat (first | apply Kd.R_alloc | apply Kd.R_drewN | apply Kd.R_drew)); exact HO_4.out) hb); have n2_ := Aside0.mk (below_step (by repeat (first | (with_reducible first | exact HB.out | apply below_alloc | apply pw_below_drewN | apply below_drew1) | exact HB.out | exact Below.refl _ _)) hb); clear HO_3; clear HO_4; clear HB; have HO_3 := n0_; have HO_4 := n1_; have HB := n2_; clear n0_ n1_ n2_; (try clear hb); (try clear hb2); (try clear hk); (try clear hi)) | (go_at_call 9; (with_reducible refine (show_Lines.calls t137 t143 _ A20.out).mono ?_); rintro e w' ⟨rfl, ⟨nd, rfl⟩⟩) | (go_at_call 9; (with_reducible refine (show_Lines.calls t139 t144 _ A22.out).mono ?_); rintro e w' ⟨rfl, ⟨nd, rfl⟩⟩))
           go_ret
           exact ⟨by first | rfl | (simp [errW_none, errW_some] <;> rfl) | (simp [*, errW_none, errW_some] <;> rfl), by repeat (first | (with_reducible first | exact HB.out | apply below_alloc | apply pw_below_drewN | apply below_drew1) | exact HB.out | exact Below.refl _ _)⟩
         ·rw [if_neg c23] at H
          have c23b0 : decide ((wrap64 ((t130.length : Int) + 1)) ≤ t144) = false := decide_eq_false c23
          clear c23
          obtain rfl := Option.some.inj H
          go_wp2_with (first | ((with_reducible refine gate_callee (f := 6) rfl ?_); refine goesL_ (some 52) rfl rfl Try.func6 (by kernel_rfl) rfl #[] rfl (by (try simp only [List.map_toArray, List.map_cons, List.map_nil]); first | done | rfl | (simp only [List.length_drop, List.length_take]; rfl)) ?_; (with_reducible refine (reticulelaw08_live.calls k2  true _ A18.out).mono ?_); rintro e w27 ⟨rfl, hb⟩; refine ⟨_, rfl, ?_⟩; have n0_ := Aside0.mk (Kd.S_below (by (with_reducible repeat (first | apply Kd.S_alloc | apply Kd.S_drewN | apply Kd.S_drew)); exact HO_3.out) hb); have n1_ := Aside0.mk (Kd.R_below (by (with_reducible repeat (first | apply Kd.R_alloc | apply Kd.R_drewN | apply Kd.R_drew)); exact HO_4.out) hb); have n2_ := Aside0.mk (below_step (by repeat (first | (with_reducible first | exact HB.out | apply below_alloc | apply pw_below_drewN | apply below_drew1) | exact HB.out | exact Below.refl _ _)) hb); clear HO_3; clear HO_4; clear HB; have HO_3 := n0_; have HO_4 := n1_; have HB := n2_; clear n0_ n1_ n2_; (try clear hb); (try clear hb2); (try clear hk); (try clear hi)) | (go_at_call 9; (with_reducible refine (show_Lines.calls t137 t143 _ A20.out).mono ?_); rintro e w' ⟨rfl, ⟨nd, rfl⟩⟩) | (go_at_call 9; (with_reducible refine (show_Lines.calls t139 t144 _ A22.out).mono ?_); rintro e w' ⟨rfl, ⟨nd, rfl⟩⟩))
          go_ret
          exact ⟨by first | rfl | (simp [errW_none, errW_some] <;> rfl) | (simp [*, errW_none, errW_some] <;> rfl), by repeat (first | (with_reducible first | exact HB.out | apply below_alloc | apply pw_below_drewN | apply below_drew1) | exact HB.out | exact Below.refl _ _)⟩
        ·rw [if_neg c21] at H
         have c21b0 : (t143 == (wrap64 ((t130.length : Int) + 1))) = false := beq_eq_false_iff_ne.mpr c21
         have c21b1 : (t143 != (wrap64 ((t130.length : Int) + 1))) = true := bne_iff_ne.mpr c21
         obtain rfl := Option.some.inj H
         go_wp2_with (first | ((with_reducible refine gate_callee (f := 6) rfl ?_); refine goesL_ (some 52) rfl rfl Try.func6 (by kernel_rfl) rfl #[] rfl (by (try simp only [List.map_toArray, List.map_cons, List.map_nil]); first | done | rfl | (simp only [List.length_drop, List.length_take]; rfl)) ?_; (with_reducible refine (reticulelaw08_live.calls k2  true _ A18.out).mono ?_); rintro e w28 ⟨rfl, hb⟩; refine ⟨_, rfl, ?_⟩; have n0_ := Aside0.mk (Kd.S_below (by (with_reducible repeat (first | apply Kd.S_alloc | apply Kd.S_drewN | apply Kd.S_drew)); exact HO_3.out) hb); have n1_ := Aside0.mk (Kd.R_below (by (with_reducible repeat (first | apply Kd.R_alloc | apply Kd.R_drewN | apply Kd.R_drew)); exact HO_4.out) hb); have n2_ := Aside0.mk (below_step (by repeat (first | (with_reducible first | exact HB.out | apply below_alloc | apply pw_below_drewN | apply below_drew1) | exact HB.out | exact Below.refl _ _)) hb); clear HO_3; clear HO_4; clear HB; have HO_3 := n0_; have HO_4 := n1_; have HB := n2_; clear n0_ n1_ n2_; (try clear hb); (try clear hb2); (try clear hk); (try clear hi)) | (go_at_call 9; (with_reducible refine (show_Lines.calls t137 t143 _ A20.out).mono ?_); rintro e w' ⟨rfl, ⟨nd, rfl⟩⟩))
         go_ret
         exact ⟨by first | rfl | (simp [errW_none, errW_some] <;> rfl) | (simp [*, errW_none, errW_some] <;> rfl), by repeat (first | (with_reducible first | exact HB.out | apply below_alloc | apply pw_below_drewN | apply below_drew1) | exact HB.out | exact Below.refl _ _)⟩
       ·replace c19 := Bool.eq_false_iff.mpr c19
        subst c19
        have H1 : (some false) = some r := by rw [if_neg (show ¬ (false = true) by decide)] at H; exact H
        clear H
        have H := H1
        clear H1
        obtain rfl := Option.some.inj H
        go_wp2_with (first | ((with_reducible refine gate_callee (f := 6) rfl ?_); refine goesL_ (some 52) rfl rfl Try.func6 (by kernel_rfl) rfl #[] rfl (by (try simp only [List.map_toArray, List.map_cons, List.map_nil]); first | done | rfl | (simp only [List.length_drop, List.length_take]; rfl)) ?_; (with_reducible refine (reticulelaw08_live.calls k2  false _ A18.out).mono ?_); rintro e w29 ⟨rfl, hb⟩; refine ⟨_, rfl, ?_⟩; have n0_ := Aside0.mk (Kd.S_below (by (with_reducible repeat (first | apply Kd.S_alloc | apply Kd.S_drewN | apply Kd.S_drew)); exact HO_3.out) hb); have n1_ := Aside0.mk (Kd.R_below (by (with_reducible repeat (first | apply Kd.R_alloc | apply Kd.R_drewN | apply Kd.R_drew)); exact HO_4.out) hb); have n2_ := Aside0.mk (below_step (by repeat (first | (with_reducible first | exact HB.out | apply below_alloc | apply pw_below_drewN | apply below_drew1) | exact HB.out | exact Below.refl _ _)) hb); clear HO_3; clear HO_4; clear HB; have HO_3 := n0_; have HO_4 := n1_; have HB := n2_; clear n0_ n1_ n2_; (try clear hb); (try clear hb2); (try clear hk); (try clear hi)))
        go_ret
        exact ⟨by first | rfl | (simp [errW_none, errW_some] <;> rfl) | (simp [*, errW_none, errW_some] <;> rfl), by repeat (first | (with_reducible first | exact HB.out | apply below_alloc | apply pw_below_drewN | apply below_drew1) | exact HB.out | exact Below.refl _ _)⟩
   ·replace c7 := Bool.eq_false_iff.mpr c7
    subst c7
    have H1 : ((reticulelaw08_live.f kj1).bind fun t136 => (some t136)) = some r := by rw [if_neg (show ¬ (false = true) by decide)] at H; exact H
    clear H
    have H := H1
    clear H1
    replace H := Option.bind_eq_some_iff.mp H
    obtain ⟨t136, A300, H⟩ := H
    replace H : (some t136) = some r := H
    have A30 := Aside0.mk A300
    clear A300
    obtain rfl := Option.some.inj H
    go_wp2_with (first | ((with_reducible refine gate_callee (f := 5) rfl ?_); refine goesL_ (some 19) rfl rfl Try.func5 (by kernel_rfl) rfl #[.string x0_1] rfl (by (try simp only [List.map_toArray, List.map_cons, List.map_nil]); first | done | rfl | (simp only [List.length_drop, List.length_take]; rfl)) ?_; (with_reducible refine (reticulelaw08_read.calls kj1 x0_1 t129 t130 false _ A6.out).mono ?_); rintro e w31 ⟨v132, v134, rfl, ho0, ho1, hb⟩; refine ⟨_, rfl, ?_⟩; have n0_ := Aside0.mk (Kd.S_lower ho0 (below_size (by repeat (first | (with_reducible first | exact HB.out | apply below_alloc | apply pw_below_drewN | apply below_drew1) | exact HB.out | exact Below.refl _ _)))); have n1_ := Aside0.mk (Kd.R_lower ho1 (below_size (by repeat (first | (with_reducible first | exact HB.out | apply below_alloc | apply pw_below_drewN | apply below_drew1) | exact HB.out | exact Below.refl _ _)))); have n2_ := Aside0.mk (below_step (by repeat (first | (with_reducible first | exact HB.out | apply below_alloc | apply pw_below_drewN | apply below_drew1) | exact HB.out | exact Below.refl _ _)) hb); clear HB; have HO133 := n0_; have HO135 := n1_; have HB := n2_; clear n0_ n1_ n2_; (try clear hb); (try clear hb2); (try clear hk); (try clear hi); (try clear ho0); (try clear ho1)) | ((with_reducible refine gate_callee (f := 6) rfl ?_); refine goesL_ (some 25) rfl rfl Try.func6 (by kernel_rfl) rfl #[] rfl (by (try simp only [List.map_toArray, List.map_cons, List.map_nil]); first | done | rfl | (simp only [List.length_drop, List.length_take]; rfl)) ?_; (with_reducible refine (reticulelaw08_live.calls kj1  t136 _ A30.out).mono ?_); rintro e w32 ⟨rfl, hb⟩; refine ⟨_, rfl, ?_⟩; have n0_ := Aside0.mk (Kd.S_below (by (with_reducible repeat (first | apply Kd.S_alloc | apply Kd.S_drewN | apply Kd.S_drew)); exact HO133.out) hb); have n1_ := Aside0.mk (Kd.R_below (by (with_reducible repeat (first | apply Kd.R_alloc | apply Kd.R_drewN | apply Kd.R_drew)); exact HO135.out) hb); have n2_ := Aside0.mk (below_step (by repeat (first | (with_reducible first | exact HB.out | apply below_alloc | apply pw_below_drewN | apply below_drew1) | exact HB.out | exact Below.refl _ _)) hb); clear HO133; clear HO135; clear HB; have HO133 := n0_; have HO135 := n1_; have HB := n2_; clear n0_ n1_ n2_; (try clear hb); (try clear hb2); (try clear hk); (try clear hi)))
    go_ret
    exact ⟨by first | rfl | (simp [errW_none, errW_some] <;> rfl) | (simp [*, errW_none, errW_some] <;> rfl), by repeat (first | (with_reducible first | exact HB.out | apply below_alloc | apply pw_below_drewN | apply below_drew1) | exact HB.out | exact Below.refl _ _)⟩

def reticulelaw08_ShowLines.Pure : Prop := ∀ (a0 : ByteArray), a0.size ≤ 140737488351232 → ∃ k, reticulelaw08_ShowLines.f k a0 = some true
theorem reticulelaw08_ShowLines.walk (P : reticulelaw08_ShowLines.Pure) (a0 : ByteArray) (w : World) (w0 : a0.size ≤ 140737488351232) :
  Calls Try.prog 3 #[.string a0] w fun e w' => e = .returned (.bool true) ∧ Below w.heap.size w w' := by
 obtain ⟨k, h⟩ := P a0 w0
 refine (reticulelaw08_ShowLines.calls k a0 true w h).mono ?_
 rintro e w' ⟨rfl, hd⟩
 exact ⟨rfl, hd⟩

end Go.Proofs.Ytldjbgonlbmeaaa.PC
