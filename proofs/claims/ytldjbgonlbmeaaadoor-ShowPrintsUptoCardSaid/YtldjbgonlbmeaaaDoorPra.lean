/- PRx0, PRx1, PRx2, PRx3, PRx4 -/
import Derived.Test.YtldjbgonlbmeaaaDoorProg
import Derived.Below
import Derived.Deep.Draws
import Derived.Deep.AppendLies
import Derived.Maps.AppendAt
import Derived.OwnWalk
import Derived.Laws.BytesArg
import Derived.Laws.MakeOwn
import Derived.Laws.OwnMore
import Derived.Deep.OwnRows
import Derived.Tactics
import Derived.Lib.ConvBytes
import Derived.Laws.Slices
import Derived.WalkKit
import Derived.KernelRfl
import Derived.RowKit3
import Derived.Deep.LoopGhost
import Derived.Deep.QuietTactic
import Derived.BigQuiet
import Derived.WideLaws
import Derived.Deep.DeepCutAuto
import Derived.Deep.CutBlock
import Derived.Deep.RegionHeld3
import Derived.Laws.Rows
import Derived.Lib.AppendStr
import Derived.ArgAppend
import Derived.Laws.IdiomCopy
import Derived.OrdersHeld
import Derived.Laws.BitsLemmas
import Derived.RowKit
import Derived.Test.YtldjbgonlbmeaaaDoorBsa
import Derived.Test.YtldjbgonlbmeaaaDoorPAx7
import Derived.Test.YtldjbgonlbmeaaaDoorPAx5
import Derived.Test.YtldjbgonlbmeaaaDoorPAx6
import Derived.Test.YtldjbgonlbmeaaaDoorWWords
import Derived.Test.YtldjbgonlbmeaaaDoorWz
set_option linter.unusedSimpArgs false
set_option linter.unusedVariables false
section
-- Machine-made walks, written for this claim by a program of this session (plug.py).
namespace Go.Proofs.YtldjbgonlbmeaaaDoor.PR
open Go.RowKit Go.Proofs.YtldjbgonlbmeaaaDoor.PA Go.Proofs.YtldjbgonlbmeaaaDoor.Dig Go.Proofs.YtldjbgonlbmeaaaDoorW.PrintWords Go.Proofs.YtldjbgonlbmeaaaDoorW.PrintLast Go.Proofs.YtldjbgonlbmeaaaDoorW.PrintMore
attribute [local go_sem] max2_int min2_int max_two min_two max_three min_three max_four min_four   -- for this text's walks alone
set_option linter.unusedVariables false
set_option linter.unusedSimpArgs false

end Go.Proofs.YtldjbgonlbmeaaaDoor.PR
end
section
-- Machine-made walks, written for this claim by a program of this session (plug.py).
namespace Go.Proofs.YtldjbgonlbmeaaaDoor.PR
open Go.RowKit Go.Proofs.YtldjbgonlbmeaaaDoor.PA Go.Proofs.YtldjbgonlbmeaaaDoor.Dig Go.Proofs.YtldjbgonlbmeaaaDoorW.PrintWords Go.Proofs.YtldjbgonlbmeaaaDoorW.PrintLast Go.Proofs.YtldjbgonlbmeaaaDoorW.PrintMore
attribute [local go_sem] max2_int min2_int max_two min_two max_three min_three max_four min_four   -- for this text's walks alone
set_option linter.unusedVariables false
set_option linter.unusedSimpArgs false

mutual
def reticuleref08_text.l0 : Nat → List (S61) → ByteArray → Int → Int → ByteArray → Int → List Int → Int → Option (ByteArray)
 | 0, _, _, _, _, _, _, _, _ => none
 | k + 1, x0, x6, x7, x122000, x122001, x122002, x122003, x122004 => if x7 < (x122003.length : Int) then (if x7 > 0 then (if x6.size + 1 ≤ 9223372036854775807 then (if 0 ≤ x7 then ((reticuleref08_text.f k x0 (rd x122003 x7)).bind fun t124 => (if (x6 ++ (⟨#[32]⟩ : ByteArray)).size + t124.size ≤ 9223372036854775807 then (reticuleref08_text.l0 k x0 ((x6 ++ (⟨#[32]⟩ : ByteArray)) ++ t124) (wrap64 (x7 + 1)) x122000 x122001 x122002 x122003 x122004) else (none))) else (none)) else (none)) else (if 0 ≤ x7 then ((reticuleref08_text.f k x0 (rd x122003 x7)).bind fun t126 => (if x6.size + t126.size ≤ 9223372036854775807 then (reticuleref08_text.l0 k x0 (x6 ++ t126) (wrap64 (x7 + 1)) x122000 x122001 x122002 x122003 x122004) else (none))) else (none))) else (if x6.size + 1 ≤ 9223372036854775807 then (some (x6 ++ (⟨#[41]⟩ : ByteArray))) else (none))
def reticuleref08_text.f : Nat → List (S61) → Int → Option (ByteArray)
 | 0, _, _ => none
 | k + 1, l0, a1 => if 0 ≤ a1 then (if a1 < (l0.length : Int) then (if ((rd_T61 l0 a1).f0) = 3 then (some ((rd_T61 l0 a1).f1)) else (if ((rd_T61 l0 a1).f0) = 4 then ((reticuleref01_Digits.f ((rd_T61 l0 a1).f2)).bind fun t122 => (some t122)) else (reticuleref08_text.l0 k l0 (⟨#[40]⟩ : ByteArray) 0 ((rd_T61 l0 a1).f0) ((rd_T61 l0 a1).f1) ((rd_T61 l0 a1).f2) ((rd_T61 l0 a1).f3) ((rd_T61 l0 a1).f4)))) else (none)) else (none)
end
theorem reticuleref08_text.mono_l : ∀ k, (∀ y0 y1, LeO (reticuleref08_text.f k y0 y1) (reticuleref08_text.f (k + 1) y0 y1)) ∧ (∀ y0 y1 y2 y3 y4 y5 y6 y7, LeO (reticuleref08_text.l0 k y0 y1 y2 y3 y4 y5 y6 y7) (reticuleref08_text.l0 (k + 1) y0 y1 y2 y3 y4 y5 y6 y7))
 | 0 => ⟨fun _ _ r h => by simp [reticuleref08_text.f] at h, fun _ _ _ _ _ _ _ _ r h => by simp [reticuleref08_text.l0] at h⟩
 | k + 1 => by
  obtain ⟨ih0, ih1⟩ := reticuleref08_text.mono_l k
  refine ⟨?_, ?_⟩
  ·intro y0 y1
   unfold reticuleref08_text.f
   repeat' first
   | (with_reducible exact ih0 _ _)
   | (with_reducible exact ih1 _ _ _ _ _ _ _ _)
   | (with_reducible exact LeO.refl _)
   | (with_reducible exact LeO.none _)
   | (with_reducible refine LeO.ite ?_ ?_)
   | (with_reducible refine LeO.bind ?_ (fun _ => ?_))
   | exact ih0 _ _
   | exact ih1 _ _ _ _ _ _ _ _
   | exact LeO.none _
   | refine LeO.ite ?_ ?_
   | refine LeO.bind ?_ (fun _ => ?_)
  ·intro y0 y1 y2 y3 y4 y5 y6 y7
   unfold reticuleref08_text.l0
   repeat' first
   | (with_reducible exact ih0 _ _)
   | (with_reducible exact ih1 _ _ _ _ _ _ _ _)
   | (with_reducible exact LeO.refl _)
   | (with_reducible exact LeO.none _)
   | (with_reducible refine LeO.ite ?_ ?_)
   | (with_reducible refine LeO.bind ?_ (fun _ => ?_))
   | exact ih0 _ _
   | exact ih1 _ _ _ _ _ _ _ _
   | exact LeO.none _
   | refine LeO.ite ?_ ?_
   | refine LeO.bind ?_ (fun _ => ?_)
theorem reticuleref08_text.mono : ∀ a0 a1 k, LeO (reticuleref08_text.f k a0 a1) (reticuleref08_text.f (k + 1) a0 a1) := by
 intro a0 a1 k
 obtain ⟨ih0, ih1⟩ := reticuleref08_text.mono_l k
 exact ih0 a0 a1
set_option maxHeartbeats 8000000 in
set_option maxRecDepth 100000 in
theorem reticuleref08_text.calls (k : Nat) : ∀ (A0 : Option Addr) (c0 : Nat) (l0 : List (S61)) (a1 : Int) (r : ByteArray) (w : World) (HT : Aside0 (Go.Proofs.YtldjbgonlbmeaaaDoor.Dig.Tab w)) (hr0 : Kd.C k61 w A0 l0.length l0) (hc0 : l0.length ≤ c0) (h : reticuleref08_text.f k l0 a1 = some r),
  Calls Tryd.prog 23 #[.slice A0 l0.length c0, .int .i64 a1] w fun e w' => e = .returned (.string r) ∧ Below w.heap.size w w' := by
 induction k using Nat.strongRecOn with
 | _ k ih =>
 intro A0 c0 l0 a1 r w HT hr0 hc0 h
 cases k with
 | zero => exact absurd h (by simp [reticuleref08_text.f])
 | succ k =>
 simp only [reticuleref08_text.f] at h
 have hu61 := Tryd.underlying61
 have HR0 := Aside0.mk hr0
 have HC0 := Aside0.mk hc0
 clear hr0 hc0
 have HB := Aside0.mk (Below.refl w.heap.size w)
 have H : (if 0 ≤ a1 then (if a1 < (l0.length : Int) then (if ((rd_T61 l0 a1).f0) = 3 then (some ((rd_T61 l0 a1).f1)) else (if ((rd_T61 l0 a1).f0) = 4 then ((reticuleref01_Digits.f ((rd_T61 l0 a1).f2)).bind fun t122 => (some t122)) else (reticuleref08_text.l0 k l0 (⟨#[40]⟩ : ByteArray) 0 ((rd_T61 l0 a1).f0) ((rd_T61 l0 a1).f1) ((rd_T61 l0 a1).f2) ((rd_T61 l0 a1).f3) ((rd_T61 l0 a1).f4)))) else (none)) else (none)) = some r := h
 clear h
 by_cases c3 : 0 ≤ a1
 ·rw [if_pos c3] at H
  have c3b0 : decide (0 ≤ a1) = true := decide_eq_true c3
  clear c3
  by_cases c4 : a1 < (l0.length : Int)
  ·rw [if_pos c4] at H
   have c4b0 : decide (a1 < (l0.length : Int)) = true := decide_eq_true c4
   clear c4
   by_cases c5 : ((rd_T61 l0 a1).f0) = 3
   ·rw [if_pos c5] at H
    have c5b0 : (((rd_T61 l0 a1).f0) == 3) = true := beq_iff_eq.mpr c5
    have c5b1 : (((rd_T61 l0 a1).f0) != 3) = false := bne_eq_false_iff_eq.mpr c5
    clear c5
    obtain rfl := Option.some.inj H
    have p120 : 0 ≤ (a1 : Int) := of_decide_eq_true (by first | (with_reducible assumption) | assumption)
    have q120 : a1 < (l0.length : Int) := of_decide_eq_true (by first | (with_reducible assumption) | assumption)
    obtain ⟨ad120, A120_3, c120_3, e120, hx120_0, hx120_1, hx120_2, hx120_3, hx120_4, hl120_3, hi120_3⟩ := at_T61 HR0.out a1 p120 q120
    cases e120
    have HR120_3 := Aside0.mk hi120_3
    have HC120_3 := Aside0.mk hl120_3
    clear hi120_3 hl120_3
    replace p120 := eq_true p120
    replace q120 := eq_true q120
    go_enter Tryd.func23, Tryd.ntmps23
    go_wp2_with (first | ((with_reducible refine gate_dst (N := 5) rfl ?_); refine box_event ?hg (N := 5) ?hd (cs := #[.int .u8 0, .string (⟨#[]⟩ : ByteArray), .int .i64 0, .slice none 0 0, .int .i64 0]) (t := 61) ?hr ?_; (case hd => rfl); (case hg => rfl); (case hr => first | (go_simp; done) | (go_simp; rfl)); intro gb121 hg w6 hbox hb; have n0_ := Aside0.mk (below_step (by repeat (first | (with_reducible first | exact HB.out | apply below_alloc | apply pw_below_drewN | apply below_drew1) | exact HB.out | exact Below.refl _ _)) hb); have n1_ := Aside0.mk (hbox); have n2_ := Aside0.mk ((by rw [hg]; exact (below_size (by repeat (first | (with_reducible first | exact HB.out | apply below_alloc | apply pw_below_drewN | apply below_drew1) | exact HB.out | exact Below.refl _ _))) : w.heap.size ≤ gb121)); have n3_ := Aside0.mk ((by rw [hg]; exact (below_size (by repeat (first | (with_reducible first | exact HB.out | apply below_alloc | apply pw_below_drewN | apply below_drew1) | exact HB.out | exact Below.refl _ _))) : w.heap.size ≤ gb121)); clear HB; have HB := n0_; have BK121 := n1_; have GW121 := n2_; have GE121 := n3_; clear n0_ n1_ n2_ n3_; clear hb hbox hg; have hcz7_0 : w6.cell? ⟨gb121, 0, none⟩ = some (.int .u8 0) := (blk_cell BK121.out 0).trans rfl; have hcz7_1 : w6.cell? ⟨gb121, 1, none⟩ = some (.string (⟨#[]⟩ : ByteArray)) := (blk_cell BK121.out 1).trans rfl; have hcz7_2 : w6.cell? ⟨gb121, 2, none⟩ = some (.int .i64 0) := (blk_cell BK121.out 2).trans rfl; have hcz7_3 : w6.cell? ⟨gb121, 3, none⟩ = some (.slice none 0 0) := (blk_cell BK121.out 3).trans rfl; have hcz7_4 : w6.cell? ⟨gb121, 4, none⟩ = some (.int .i64 0) := (blk_cell BK121.out 4).trans rfl; have hfz7_0 := blk_frozen BK121.out 0; have hfz7_1 := blk_frozen BK121.out 1; have hfz7_2 := blk_frozen BK121.out 2; have hfz7_3 := blk_frozen BK121.out 3; have hfz7_4 := blk_frozen BK121.out 4))
    go_ret
    exact ⟨by first | rfl | (simp [errW_none, errW_some] <;> rfl) | (simp [*, errW_none, errW_some] <;> rfl), by repeat (first | (with_reducible first | exact HB.out | apply below_alloc | apply pw_below_drewN | apply below_drew1 | refine below_set ?_ GE121.out) | exact HB.out)⟩
   ·rw [if_neg c5] at H
    have c5b0 : (((rd_T61 l0 a1).f0) == 3) = false := beq_eq_false_iff_ne.mpr c5
    have c5b1 : (((rd_T61 l0 a1).f0) != 3) = true := bne_iff_ne.mpr c5
    by_cases c8 : ((rd_T61 l0 a1).f0) = 4
    ·rw [if_pos c8] at H
     have c8b0 : (((rd_T61 l0 a1).f0) == 4) = true := beq_iff_eq.mpr c8
     have c8b1 : (((rd_T61 l0 a1).f0) != 4) = false := bne_eq_false_iff_eq.mpr c8
     clear c8
     replace H := Option.bind_eq_some_iff.mp H
     obtain ⟨t122, A90, H⟩ := H
     replace H : (some t122) = some r := H
     have A9 := Aside0.mk A90
     clear A90
     obtain rfl := Option.some.inj H
     have p120 : 0 ≤ (a1 : Int) := of_decide_eq_true (by first | (with_reducible assumption) | assumption)
     have q120 : a1 < (l0.length : Int) := of_decide_eq_true (by first | (with_reducible assumption) | assumption)
     obtain ⟨ad120, A120_3, c120_3, e120, hx120_0, hx120_1, hx120_2, hx120_3, hx120_4, hl120_3, hi120_3⟩ := at_T61 HR0.out a1 p120 q120
     cases e120
     have HR120_3 := Aside0.mk hi120_3
     have HC120_3 := Aside0.mk hl120_3
     clear hi120_3 hl120_3
     replace p120 := eq_true p120
     replace q120 := eq_true q120
     go_enter Tryd.func23, Tryd.ntmps23
     go_wp2_with (first | ((with_reducible refine gate_dst (N := 5) rfl ?_); refine box_event ?hg (N := 5) ?hd (cs := #[.int .u8 0, .string (⟨#[]⟩ : ByteArray), .int .i64 0, .slice none 0 0, .int .i64 0]) (t := 61) ?hr ?_; (case hd => rfl); (case hg => rfl); (case hr => first | (go_simp; done) | (go_simp; rfl)); intro gb121 hg w10 hbox hb; have n0_ := Aside0.mk (below_step (by repeat (first | (with_reducible first | exact HB.out | apply below_alloc | apply pw_below_drewN | apply below_drew1) | exact HB.out | exact Below.refl _ _)) hb); have n1_ := Aside0.mk (hbox); have n2_ := Aside0.mk ((by rw [hg]; exact (below_size (by repeat (first | (with_reducible first | exact HB.out | apply below_alloc | apply pw_below_drewN | apply below_drew1) | exact HB.out | exact Below.refl _ _))) : w.heap.size ≤ gb121)); have n3_ := Aside0.mk ((by rw [hg]; exact (below_size (by repeat (first | (with_reducible first | exact HB.out | apply below_alloc | apply pw_below_drewN | apply below_drew1) | exact HB.out | exact Below.refl _ _))) : w.heap.size ≤ gb121)); clear HB; have HB := n0_; have BK121 := n1_; have GW121 := n2_; have GE121 := n3_; clear n0_ n1_ n2_ n3_; clear hb hbox hg; have hcz11_0 : w10.cell? ⟨gb121, 0, none⟩ = some (.int .u8 0) := (blk_cell BK121.out 0).trans rfl; have hcz11_1 : w10.cell? ⟨gb121, 1, none⟩ = some (.string (⟨#[]⟩ : ByteArray)) := (blk_cell BK121.out 1).trans rfl; have hcz11_2 : w10.cell? ⟨gb121, 2, none⟩ = some (.int .i64 0) := (blk_cell BK121.out 2).trans rfl; have hcz11_3 : w10.cell? ⟨gb121, 3, none⟩ = some (.slice none 0 0) := (blk_cell BK121.out 3).trans rfl; have hcz11_4 : w10.cell? ⟨gb121, 4, none⟩ = some (.int .i64 0) := (blk_cell BK121.out 4).trans rfl; have hfz11_0 := blk_frozen BK121.out 0; have hfz11_1 := blk_frozen BK121.out 1; have hfz11_2 := blk_frozen BK121.out 2; have hfz11_3 := blk_frozen BK121.out 3; have hfz11_4 := blk_frozen BK121.out 4) | ((with_reducible refine gate_callee (f := 37) rfl ?_); refine goesL_ (some 22) rfl rfl Tryd.func37 (by kernel_rfl) rfl #[.int .i64 ((rd_T61 l0 a1).f2)] rfl (by (try simp only [List.map_toArray, List.map_cons, List.map_nil]); first | done | rfl | (simp only [List.length_drop, List.length_take]; rfl)) ?_; (with_reducible refine (reticuleref01_Digits.calls ((rd_T61 l0 a1).f2) t122 _ ?sideT A9.out).mono ?_); (case sideT => exact Go.Proofs.YtldjbgonlbmeaaaDoor.Dig.Tab.bel HT (by repeat (first | (with_reducible first | exact HB.out | apply below_alloc | apply pw_below_drewN | apply below_drew1 | apply below_drew) | exact HB.out | exact Below.refl _ _ | refine below_set ?_ GE121.out))); rintro e w12 ⟨rfl, hb⟩; refine ⟨_, rfl, ?_⟩; have n0_ := Aside0.mk (blk_below (g := gb121) (o := .cells #[.int .u8 ((rd_T61 l0 a1).f0), .string ((rd_T61 l0 a1).f1), .int .i64 ((rd_T61 l0 a1).f2), .slice A120_3 ((rd_T61 l0 a1).f3).length c120_3, .int .i64 ((rd_T61 l0 a1).f4)] 61 (0, 0)) (by (with_reducible repeat (first | refine blk_drewN ?_ _ | refine blk_drew ?_ | refine blk_alloc ?_ _)); refine blk_put (cs := #[.int .u8 ((rd_T61 l0 a1).f0), .string ((rd_T61 l0 a1).f1), .int .i64 ((rd_T61 l0 a1).f2), .slice A120_3 ((rd_T61 l0 a1).f3).length c120_3, .int .i64 0]) ?_ 4 _ rfl; (with_reducible repeat (first | refine blk_drewN ?_ _ | refine blk_drew ?_ | refine blk_alloc ?_ _)); refine blk_put (cs := #[.int .u8 ((rd_T61 l0 a1).f0), .string ((rd_T61 l0 a1).f1), .int .i64 ((rd_T61 l0 a1).f2), .slice none 0 0, .int .i64 0]) ?_ 3 _ rfl; (with_reducible repeat (first | refine blk_drewN ?_ _ | refine blk_drew ?_ | refine blk_alloc ?_ _)); refine blk_put (cs := #[.int .u8 ((rd_T61 l0 a1).f0), .string ((rd_T61 l0 a1).f1), .int .i64 0, .slice none 0 0, .int .i64 0]) ?_ 2 _ rfl; (with_reducible repeat (first | refine blk_drewN ?_ _ | refine blk_drew ?_ | refine blk_alloc ?_ _)); refine blk_put (cs := #[.int .u8 ((rd_T61 l0 a1).f0), .string (⟨#[]⟩ : ByteArray), .int .i64 0, .slice none 0 0, .int .i64 0]) ?_ 1 _ rfl; (with_reducible repeat (first | refine blk_drewN ?_ _ | refine blk_drew ?_ | refine blk_alloc ?_ _)); refine blk_put (cs := #[.int .u8 0, .string (⟨#[]⟩ : ByteArray), .int .i64 0, .slice none 0 0, .int .i64 0]) ?_ 0 _ rfl; (with_reducible repeat (first | refine blk_drewN ?_ _ | refine blk_drew ?_ | refine blk_alloc ?_ _)); exact BK121.out) hb); have n1_ := Aside0.mk (below_step (by repeat (first | (with_reducible first | exact HB.out | apply below_alloc | apply pw_below_drewN | apply below_drew1 | refine below_set ?_ GE121.out) | exact HB.out)) hb); clear BK121; clear HB; have BK121 := n0_; have HB := n1_; clear n0_ n1_; (try clear hb); (try clear hb2); (try clear hk); (try clear hi)))
     go_ret
     exact ⟨by first | rfl | (simp [errW_none, errW_some] <;> rfl) | (simp [*, errW_none, errW_some] <;> rfl), by repeat (first | (with_reducible first | exact HB.out | apply below_alloc | apply pw_below_drewN | apply below_drew1 | refine below_set ?_ GE121.out) | exact HB.out)⟩
    ·rw [if_neg c8] at H
     have c8b0 : (((rd_T61 l0 a1).f0) == 4) = false := beq_eq_false_iff_ne.mpr c8
     have c8b1 : (((rd_T61 l0 a1).f0) != 4) = true := bne_iff_ne.mpr c8
     have H' := Aside0.mk H
     clear H
     have p120 : 0 ≤ (a1 : Int) := of_decide_eq_true (by first | (with_reducible assumption) | assumption)
     have q120 : a1 < (l0.length : Int) := of_decide_eq_true (by first | (with_reducible assumption) | assumption)
     obtain ⟨ad120, A120_3, c120_3, e120, hx120_0, hx120_1, hx120_2, hx120_3, hx120_4, hl120_3, hi120_3⟩ := at_T61 HR0.out a1 p120 q120
     cases e120
     have HR120_3 := Aside0.mk hi120_3
     have HC120_3 := Aside0.mk hl120_3
     clear hi120_3 hl120_3
     replace p120 := eq_true p120
     replace q120 := eq_true q120
     go_enter Tryd.func23, Tryd.ntmps23
     go_wp2_with (first | ((with_reducible refine gate_dst (N := 5) rfl ?_); refine box_event ?hg (N := 5) ?hd (cs := #[.int .u8 0, .string (⟨#[]⟩ : ByteArray), .int .i64 0, .slice none 0 0, .int .i64 0]) (t := 61) ?hr ?_; (case hd => rfl); (case hg => rfl); (case hr => first | (go_simp; done) | (go_simp; rfl)); intro gb121 hg w13 hbox hb; have n0_ := Aside0.mk (below_step (by repeat (first | (with_reducible first | exact HB.out | apply below_alloc | apply pw_below_drewN | apply below_drew1) | exact HB.out | exact Below.refl _ _)) hb); have n1_ := Aside0.mk (hbox); have n2_ := Aside0.mk ((by rw [hg]; exact (below_size (by repeat (first | (with_reducible first | exact HB.out | apply below_alloc | apply pw_below_drewN | apply below_drew1) | exact HB.out | exact Below.refl _ _))) : w.heap.size ≤ gb121)); have n3_ := Aside0.mk ((by rw [hg]; exact (below_size (by repeat (first | (with_reducible first | exact HB.out | apply below_alloc | apply pw_below_drewN | apply below_drew1) | exact HB.out | exact Below.refl _ _))) : w.heap.size ≤ gb121)); clear HB; have HB := n0_; have BK121 := n1_; have GW121 := n2_; have GE121 := n3_; clear n0_ n1_ n2_ n3_; clear hb hbox hg; have hcz14_0 : w13.cell? ⟨gb121, 0, none⟩ = some (.int .u8 0) := (blk_cell BK121.out 0).trans rfl; have hcz14_1 : w13.cell? ⟨gb121, 1, none⟩ = some (.string (⟨#[]⟩ : ByteArray)) := (blk_cell BK121.out 1).trans rfl; have hcz14_2 : w13.cell? ⟨gb121, 2, none⟩ = some (.int .i64 0) := (blk_cell BK121.out 2).trans rfl; have hcz14_3 : w13.cell? ⟨gb121, 3, none⟩ = some (.slice none 0 0) := (blk_cell BK121.out 3).trans rfl; have hcz14_4 : w13.cell? ⟨gb121, 4, none⟩ = some (.int .i64 0) := (blk_cell BK121.out 4).trans rfl; have hfz14_0 := blk_frozen BK121.out 0; have hfz14_1 := blk_frozen BK121.out 1; have hfz14_2 := blk_frozen BK121.out 2; have hfz14_3 := blk_frozen BK121.out 3; have hfz14_4 := blk_frozen BK121.out 4))
     go_loopg [6, 7] k (fun kq v6 v7 w' => ∃ (x6_1 : ByteArray) (x7_1 : Int), v6 = .string x6_1 ∧ v7 = .int .i64 x7_1 ∧ Aside0 (reticuleref08_text.l0 kq l0 x6_1 x7_1 ((rd_T61 l0 a1).f0) ((rd_T61 l0 a1).f1) ((rd_T61 l0 a1).f2) ((rd_T61 l0 a1).f3) ((rd_T61 l0 a1).f4) = some r) ∧ Aside0 (kq ≤ k) ∧ Aside0 (w'.heap[gb121]? = some (.cells #[.int .u8 ((rd_T61 l0 a1).f0), .string ((rd_T61 l0 a1).f1), .int .i64 ((rd_T61 l0 a1).f2), (.slice A120_3 ((rd_T61 l0 a1).f3).length c120_3), .int .i64 ((rd_T61 l0 a1).f4)] 61 (0, 0))) ∧ Aside0 (Below w.heap.size w w'))
     case atStart => exact ⟨((⟨#[40]⟩ : ByteArray)), (0), (by first | rfl | (simp; done) | (simp [*]; done)), (by first | rfl | (simp; done) | (simp [*]; done)), H', ⟨Nat.le_refl _⟩, ⟨by (with_reducible repeat (first | refine blk_drewN ?_ _ | refine blk_drew ?_ | refine blk_alloc ?_ _)); refine blk_put (cs := #[.int .u8 ((rd_T61 l0 a1).f0), .string ((rd_T61 l0 a1).f1), .int .i64 ((rd_T61 l0 a1).f2), .slice A120_3 ((rd_T61 l0 a1).f3).length c120_3, .int .i64 0]) ?_ 4 _ rfl; (with_reducible repeat (first | refine blk_drewN ?_ _ | refine blk_drew ?_ | refine blk_alloc ?_ _)); refine blk_put (cs := #[.int .u8 ((rd_T61 l0 a1).f0), .string ((rd_T61 l0 a1).f1), .int .i64 ((rd_T61 l0 a1).f2), .slice none 0 0, .int .i64 0]) ?_ 3 _ rfl; (with_reducible repeat (first | refine blk_drewN ?_ _ | refine blk_drew ?_ | refine blk_alloc ?_ _)); refine blk_put (cs := #[.int .u8 ((rd_T61 l0 a1).f0), .string ((rd_T61 l0 a1).f1), .int .i64 0, .slice none 0 0, .int .i64 0]) ?_ 2 _ rfl; (with_reducible repeat (first | refine blk_drewN ?_ _ | refine blk_drew ?_ | refine blk_alloc ?_ _)); refine blk_put (cs := #[.int .u8 ((rd_T61 l0 a1).f0), .string (⟨#[]⟩ : ByteArray), .int .i64 0, .slice none 0 0, .int .i64 0]) ?_ 1 _ rfl; (with_reducible repeat (first | refine blk_drewN ?_ _ | refine blk_drew ?_ | refine blk_alloc ?_ _)); refine blk_put (cs := #[.int .u8 0, .string (⟨#[]⟩ : ByteArray), .int .i64 0, .slice none 0 0, .int .i64 0]) ?_ 0 _ rfl; (with_reducible repeat (first | refine blk_drewN ?_ _ | refine blk_drew ?_ | refine blk_alloc ?_ _)); exact BK121.out⟩, ⟨by repeat (first | (with_reducible first | exact HB.out | apply below_alloc | apply pw_below_drewN | apply below_drew1 | refine below_set ?_ GE121.out) | exact HB.out)⟩⟩
     case round =>
      clear H'
      try clear c1
      try clear p1
      try clear q1
      try clear hx1
      try clear c2
      try clear p2
      try clear c3
      try clear c3b0
      try clear c4
      try clear c4b0
      try clear c5
      try clear c5b0
      try clear c5b1
      try clear c8
      try clear c8b0
      try clear c8b1
      try clear c12
      try clear p12
      try clear q12
      try clear hx12
      try clear hcz11_0
      try clear hcz11_1
      try clear hcz11_2
      try clear hcz11_3
      try clear hcz11_4
      try clear hcz14_0
      try clear hcz14_1
      try clear hcz14_2
      try clear hcz14_3
      try clear hcz14_4
      try clear hcz7_0
      try clear hcz7_1
      try clear hcz7_2
      try clear hcz7_3
      try clear hcz7_4
      try clear hfz11_0
      try clear hfz11_1
      try clear hfz11_2
      try clear hfz11_3
      try clear hfz11_4
      try clear hfz14_0
      try clear hfz14_1
      try clear hfz14_2
      try clear hfz14_3
      try clear hfz14_4
      try clear hfz7_0
      try clear hfz7_1
      try clear hfz7_2
      try clear hfz7_3
      try clear hfz7_4
      try clear hx120_0
      try clear hx120_1
      try clear hx120_2
      try clear hx120_3
      try clear hx120_4
      try clear p120
      try clear q120
      obtain ⟨x6_1, x7_1, rfl, rfl, HA, HK1, BK121, HB⟩ := hrel
      cases gk with
      | zero => exact absurd HA.out (by simp [reticuleref08_text.l0])
      | succ k1 =>
       have H := HA.out
       clear HA
       simp only [reticuleref08_text.l0] at H
       by_cases c15 : x7_1 < (((rd_T61 l0 a1).f3).length : Int)
       ·rw [if_pos c15] at H
        have c15b0 : decide (x7_1 < (((rd_T61 l0 a1).f3).length : Int)) = true := decide_eq_true c15
        clear c15
        by_cases c16 : x7_1 > 0
        ·rw [if_pos c16] at H
         have c16b0 : decide (0 < x7_1) = true := decide_eq_true c16
         clear c16
         by_cases c17 : x6_1.size + 1 ≤ 9223372036854775807
         ·rw [if_pos c17] at H
          have c17b0 := eq_true c17
          have c17b1 : decide (x6_1.size + 1 ≤ 9223372036854775807) = true := decide_eq_true c17
          try have c17b2 : (9223372036854775807 < x6_1.size + 1) = False := eq_false (Nat.not_lt.2 c17)
          by_cases c18 : 0 ≤ x7_1
          ·rw [if_pos c18] at H
           have c18b0 : decide (0 ≤ x7_1) = true := decide_eq_true c18
           clear c18
           replace H := Option.bind_eq_some_iff.mp H
           obtain ⟨t124, A190, H⟩ := H
           replace H : (if (x6_1 ++ (⟨#[32]⟩ : ByteArray)).size + t124.size ≤ 9223372036854775807 then (reticuleref08_text.l0 k1 l0 ((x6_1 ++ (⟨#[32]⟩ : ByteArray)) ++ t124) (wrap64 (x7_1 + 1)) ((rd_T61 l0 a1).f0) ((rd_T61 l0 a1).f1) ((rd_T61 l0 a1).f2) ((rd_T61 l0 a1).f3) ((rd_T61 l0 a1).f4)) else (none)) = some r := H
           have A19 := Aside0.mk A190
           clear A190
           by_cases c20 : (x6_1 ++ (⟨#[32]⟩ : ByteArray)).size + t124.size ≤ 9223372036854775807
           ·rw [if_pos c20] at H
            have c20b0 := eq_true c20
            have c20b1 : decide ((x6_1 ++ (⟨#[32]⟩ : ByteArray)).size + t124.size ≤ 9223372036854775807) = true := decide_eq_true c20
            try have c20b2 : (9223372036854775807 < (x6_1 ++ (⟨#[32]⟩ : ByteArray)).size + t124.size) = False := eq_false (Nat.not_lt.2 c20)
            try (have c20b3 := c20b2; simp only [ByteArray.size_append, show (⟨#[32]⟩ : ByteArray).size = 1 from rfl] at c20b3)
            have H' := Aside0.mk H
            clear H
            have hcz21_0 : wr.cell? ⟨gb121, 0, none⟩ = some (.int .u8 ((rd_T61 l0 a1).f0)) := (blk_cell BK121.out 0).trans rfl
            have hcz21_1 : wr.cell? ⟨gb121, 1, none⟩ = some (.string ((rd_T61 l0 a1).f1)) := (blk_cell BK121.out 1).trans rfl
            have hcz21_2 : wr.cell? ⟨gb121, 2, none⟩ = some (.int .i64 ((rd_T61 l0 a1).f2)) := (blk_cell BK121.out 2).trans rfl
            have hcz21_3 : wr.cell? ⟨gb121, 3, none⟩ = some (.slice A120_3 ((rd_T61 l0 a1).f3).length c120_3) := (blk_cell BK121.out 3).trans rfl
            have hcz21_4 : wr.cell? ⟨gb121, 4, none⟩ = some (.int .i64 ((rd_T61 l0 a1).f4)) := (blk_cell BK121.out 4).trans rfl
            have hfz21_0 := blk_frozen BK121.out 0
            have hfz21_1 := blk_frozen BK121.out 1
            have hfz21_2 := blk_frozen BK121.out 2
            have hfz21_3 := blk_frozen BK121.out 3
            have hfz21_4 := blk_frozen BK121.out 4
            have p123 : 0 ≤ (x7_1 : Int) := of_decide_eq_true (by first | (with_reducible assumption) | assumption)
            have q123 : x7_1 < (((rd_T61 l0 a1).f3).length : Int) := of_decide_eq_true (by first | (with_reducible assumption) | assumption)
            obtain ⟨ad123, e123, hx123_0⟩ := Kd.at_int HR120_3.out x7_1 p123 q123
            cases e123
            replace hx123_0 := (HB.out.cell (World.block_lt_of_cell? w _ hx123_0)).trans hx123_0
            replace p123 := eq_true p123
            replace q123 := eq_true q123
            go_wp2_with (first | ((with_reducible refine gate_callee (f := 23) rfl ?_); refine goesL_ (some 41) rfl rfl Tryd.func23 (by kernel_rfl) rfl #[.slice (some ad120) l0.length c0, .int .i64 (rd ((rd_T61 l0 a1).f3) x7_1)] rfl (by (try simp only [List.map_toArray, List.map_cons, List.map_nil]); first | done | rfl | (simp only [List.length_drop, List.length_take]; rfl)) ?_; (with_reducible refine (ih k1 (by have := HK1.out; omega) _ _ l0 (rd ((rd_T61 l0 a1).f3) x7_1) t124 _ ?sideT ?side1 ?side2 A19.out).mono ?_); (case sideT => exact Go.Proofs.YtldjbgonlbmeaaaDoor.Dig.Tab.bel HT (by repeat (first | (with_reducible first | exact HB.out | apply below_alloc | apply pw_below_drewN | apply below_drew1 | apply below_drew) | exact HB.out | exact Below.refl _ _ | refine below_set ?_ GE121.out))); (case side1 => repeat (first | exact (Kd.C_below HR0.out HB.out) | (with_reducible refine Kd.C_alloc ?_ _) | (with_reducible refine Kd.C_drewN ?_ _) | (with_reducible refine Kd.C_drew ?_))); (case side2 => exact HC0.out); rintro e w22 ⟨rfl, hb⟩; refine ⟨_, rfl, ?_⟩; have n0_ := Aside0.mk (blk_below (g := gb121) (o := .cells #[.int .u8 ((rd_T61 l0 a1).f0), .string ((rd_T61 l0 a1).f1), .int .i64 ((rd_T61 l0 a1).f2), .slice (some ad123) ((rd_T61 l0 a1).f3).length c120_3, .int .i64 ((rd_T61 l0 a1).f4)] 61 (0, 0)) (by (with_reducible repeat (first | refine blk_drewN ?_ _ | refine blk_drew ?_ | refine blk_alloc ?_ _)); exact BK121.out) hb); have n1_ := Aside0.mk (below_step (by repeat (first | (with_reducible first | exact HB.out | apply below_alloc | apply pw_below_drewN | apply below_drew1 | refine below_set ?_ GE121.out) | exact HB.out)) hb); clear BK121; clear HB; have BK121 := n0_; have HB := n1_; clear n0_ n1_; (try clear hb); (try clear hb2); (try clear hk); (try clear hi)))
            go_roundg k1
            case measure => have := HK1.out; omega
            case rel => exact ⟨((x6_1 ++ (⟨#[32]⟩ : ByteArray)) ++ t124), (wrap64 (x7_1 + 1)), (by first | rfl | (simp; done) | (simp [*]; done)), (by first | rfl | (simp; done) | (simp [*]; done)), H', ⟨by have := HK1.out; omega⟩, ⟨by (with_reducible repeat (first | refine blk_drewN ?_ _ | refine blk_drew ?_ | refine blk_alloc ?_ _)); exact BK121.out⟩, ⟨by repeat (first | (with_reducible first | exact HB.out | apply below_alloc | apply pw_below_drewN | apply below_drew1 | refine below_set ?_ GE121.out) | exact HB.out)⟩⟩
           ·rw [if_neg c20] at H
            exact absurd H (by simp)
          ·rw [if_neg c18] at H
           exact absurd H (by simp)
         ·rw [if_neg c17] at H
          exact absurd H (by simp)
        ·rw [if_neg c16] at H
         have c16b0 : decide (0 < x7_1) = false := decide_eq_false c16
         clear c16
         by_cases c23 : 0 ≤ x7_1
         ·rw [if_pos c23] at H
          have c23b0 : decide (0 ≤ x7_1) = true := decide_eq_true c23
          clear c23
          replace H := Option.bind_eq_some_iff.mp H
          obtain ⟨t126, A240, H⟩ := H
          replace H : (if x6_1.size + t126.size ≤ 9223372036854775807 then (reticuleref08_text.l0 k1 l0 (x6_1 ++ t126) (wrap64 (x7_1 + 1)) ((rd_T61 l0 a1).f0) ((rd_T61 l0 a1).f1) ((rd_T61 l0 a1).f2) ((rd_T61 l0 a1).f3) ((rd_T61 l0 a1).f4)) else (none)) = some r := H
          have A24 := Aside0.mk A240
          clear A240
          by_cases c25 : x6_1.size + t126.size ≤ 9223372036854775807
          ·rw [if_pos c25] at H
           have c25b0 := eq_true c25
           have c25b1 : decide (x6_1.size + t126.size ≤ 9223372036854775807) = true := decide_eq_true c25
           try have c25b2 : (9223372036854775807 < x6_1.size + t126.size) = False := eq_false (Nat.not_lt.2 c25)
           have H' := Aside0.mk H
           clear H
           have hcz26_0 : wr.cell? ⟨gb121, 0, none⟩ = some (.int .u8 ((rd_T61 l0 a1).f0)) := (blk_cell BK121.out 0).trans rfl
           have hcz26_1 : wr.cell? ⟨gb121, 1, none⟩ = some (.string ((rd_T61 l0 a1).f1)) := (blk_cell BK121.out 1).trans rfl
           have hcz26_2 : wr.cell? ⟨gb121, 2, none⟩ = some (.int .i64 ((rd_T61 l0 a1).f2)) := (blk_cell BK121.out 2).trans rfl
           have hcz26_3 : wr.cell? ⟨gb121, 3, none⟩ = some (.slice A120_3 ((rd_T61 l0 a1).f3).length c120_3) := (blk_cell BK121.out 3).trans rfl
           have hcz26_4 : wr.cell? ⟨gb121, 4, none⟩ = some (.int .i64 ((rd_T61 l0 a1).f4)) := (blk_cell BK121.out 4).trans rfl
           have hfz26_0 := blk_frozen BK121.out 0
           have hfz26_1 := blk_frozen BK121.out 1
           have hfz26_2 := blk_frozen BK121.out 2
           have hfz26_3 := blk_frozen BK121.out 3
           have hfz26_4 := blk_frozen BK121.out 4
           have p125 : 0 ≤ (x7_1 : Int) := of_decide_eq_true (by first | (with_reducible assumption) | assumption)
           have q125 : x7_1 < (((rd_T61 l0 a1).f3).length : Int) := of_decide_eq_true (by first | (with_reducible assumption) | assumption)
           obtain ⟨ad125, e125, hx125_0⟩ := Kd.at_int HR120_3.out x7_1 p125 q125
           cases e125
           replace hx125_0 := (HB.out.cell (World.block_lt_of_cell? w _ hx125_0)).trans hx125_0
           replace p125 := eq_true p125
           replace q125 := eq_true q125
           go_wp2_with (first | ((with_reducible refine gate_callee (f := 23) rfl ?_); refine goesL_ (some 41) rfl rfl Tryd.func23 (by kernel_rfl) rfl #[.slice (some ad120) l0.length c0, .int .i64 (rd ((rd_T61 l0 a1).f3) x7_1)] rfl (by (try simp only [List.map_toArray, List.map_cons, List.map_nil]); first | done | rfl | (simp only [List.length_drop, List.length_take]; rfl)) ?_; (with_reducible refine (ih k1 (by have := HK1.out; omega) _ _ l0 (rd ((rd_T61 l0 a1).f3) x7_1) t126 _ ?sideT ?side1 ?side2 A24.out).mono ?_); (case sideT => exact Go.Proofs.YtldjbgonlbmeaaaDoor.Dig.Tab.bel HT (by repeat (first | (with_reducible first | exact HB.out | apply below_alloc | apply pw_below_drewN | apply below_drew1 | apply below_drew) | exact HB.out | exact Below.refl _ _ | refine below_set ?_ GE121.out))); (case side1 => repeat (first | exact (Kd.C_below HR0.out HB.out) | (with_reducible refine Kd.C_alloc ?_ _) | (with_reducible refine Kd.C_drewN ?_ _) | (with_reducible refine Kd.C_drew ?_))); (case side2 => exact HC0.out); rintro e w27 ⟨rfl, hb⟩; refine ⟨_, rfl, ?_⟩; have n0_ := Aside0.mk (blk_below (g := gb121) (o := .cells #[.int .u8 ((rd_T61 l0 a1).f0), .string ((rd_T61 l0 a1).f1), .int .i64 ((rd_T61 l0 a1).f2), .slice (some ad125) ((rd_T61 l0 a1).f3).length c120_3, .int .i64 ((rd_T61 l0 a1).f4)] 61 (0, 0)) (by (with_reducible repeat (first | refine blk_drewN ?_ _ | refine blk_drew ?_ | refine blk_alloc ?_ _)); exact BK121.out) hb); have n1_ := Aside0.mk (below_step (by repeat (first | (with_reducible first | exact HB.out | apply below_alloc | apply pw_below_drewN | apply below_drew1 | refine below_set ?_ GE121.out) | exact HB.out)) hb); clear BK121; clear HB; have BK121 := n0_; have HB := n1_; clear n0_ n1_; (try clear hb); (try clear hb2); (try clear hk); (try clear hi)))
           go_roundg k1
           case measure => have := HK1.out; omega
           case rel => exact ⟨(x6_1 ++ t126), (wrap64 (x7_1 + 1)), (by first | rfl | (simp; done) | (simp [*]; done)), (by first | rfl | (simp; done) | (simp [*]; done)), H', ⟨by have := HK1.out; omega⟩, ⟨by (with_reducible repeat (first | refine blk_drewN ?_ _ | refine blk_drew ?_ | refine blk_alloc ?_ _)); exact BK121.out⟩, ⟨by repeat (first | (with_reducible first | exact HB.out | apply below_alloc | apply pw_below_drewN | apply below_drew1 | refine below_set ?_ GE121.out) | exact HB.out)⟩⟩
          ·rw [if_neg c25] at H
           exact absurd H (by simp)
         ·rw [if_neg c23] at H
          exact absurd H (by simp)
       ·rw [if_neg c15] at H
        have c15b0 : decide (x7_1 < (((rd_T61 l0 a1).f3).length : Int)) = false := decide_eq_false c15
        clear c15
        by_cases c28 : x6_1.size + 1 ≤ 9223372036854775807
        ·rw [if_pos c28] at H
         have c28b0 := eq_true c28
         have c28b1 : decide (x6_1.size + 1 ≤ 9223372036854775807) = true := decide_eq_true c28
         try have c28b2 : (9223372036854775807 < x6_1.size + 1) = False := eq_false (Nat.not_lt.2 c28)
         obtain rfl := Option.some.inj H
         have hcz29_0 : wr.cell? ⟨gb121, 0, none⟩ = some (.int .u8 ((rd_T61 l0 a1).f0)) := (blk_cell BK121.out 0).trans rfl
         have hcz29_1 : wr.cell? ⟨gb121, 1, none⟩ = some (.string ((rd_T61 l0 a1).f1)) := (blk_cell BK121.out 1).trans rfl
         have hcz29_2 : wr.cell? ⟨gb121, 2, none⟩ = some (.int .i64 ((rd_T61 l0 a1).f2)) := (blk_cell BK121.out 2).trans rfl
         have hcz29_3 : wr.cell? ⟨gb121, 3, none⟩ = some (.slice A120_3 ((rd_T61 l0 a1).f3).length c120_3) := (blk_cell BK121.out 3).trans rfl
         have hcz29_4 : wr.cell? ⟨gb121, 4, none⟩ = some (.int .i64 ((rd_T61 l0 a1).f4)) := (blk_cell BK121.out 4).trans rfl
         have hfz29_0 := blk_frozen BK121.out 0
         have hfz29_1 := blk_frozen BK121.out 1
         have hfz29_2 := blk_frozen BK121.out 2
         have hfz29_3 := blk_frozen BK121.out 3
         have hfz29_4 := blk_frozen BK121.out 4
         go_wp2
         go_ret
         exact ⟨by first | rfl | (simp [errW_none, errW_some] <;> rfl) | (simp [*, errW_none, errW_some] <;> rfl), by repeat (first | (with_reducible first | exact HB.out | apply below_alloc | apply pw_below_drewN | apply below_drew1 | refine below_set ?_ GE121.out) | exact HB.out)⟩
        ·rw [if_neg c28] at H
         exact absurd H (by simp)
  ·rw [if_neg c4] at H
   exact absurd H (by simp)
 ·rw [if_neg c3] at H
  exact absurd H (by simp)

def reticuleref08_Print.l0 : Nat → List (S61) → List Int → ByteArray → Int → Option (ByteArray × Int)
 | 0, _, _, _, _ => none
 | k + 1, x0, x1, x6, x7 => if x7 < (x1.length : Int) then (if 0 ≤ x7 then ((reticuleref08_text.f k x0 (rd x1 x7)).bind fun t129 => (if t129.size + 1 ≤ 9223372036854775807 then (if x6.size + (t129 ++ (⟨#[10]⟩ : ByteArray)).size ≤ 9223372036854775807 then (reticuleref08_Print.l0 k x0 x1 (x6 ++ (t129 ++ (⟨#[10]⟩ : ByteArray))) (wrap64 (x7 + 1))) else (none)) else (none))) else (none)) else (some (x6, 0))
def reticuleref08_Print.f (k : Nat) (l0 : List (S61)) (l1 : List Int) : Option (ByteArray × Int) := (reticuleref07_Right.f k l0 l1).bind fun t127 => (if t127 = true then (reticuleref08_Print.l0 k l0 l1 (⟨#[]⟩ : ByteArray) 0) else (some ((⟨#[]⟩ : ByteArray), 3)))
theorem reticuleref08_Print.mono_l : ∀ k, (∀ y0 y1 y2 y3, LeO (reticuleref08_Print.l0 k y0 y1 y2 y3) (reticuleref08_Print.l0 (k + 1) y0 y1 y2 y3))
 | 0 => fun _ _ _ _ r h => by simp [reticuleref08_Print.l0] at h
 | k + 1 => by
  have ih0 := reticuleref08_Print.mono_l k
  ·intro y0 y1 y2 y3
   unfold reticuleref08_Print.l0
   repeat' first
   | (with_reducible exact ih0 _ _ _ _)
   | (with_reducible exact reticuleref07_Right.mono _ _ _)
   | (with_reducible exact reticuleref08_text.mono _ _ _)
   | (with_reducible exact LeO.refl _)
   | (with_reducible exact LeO.none _)
   | (with_reducible refine LeO.ite ?_ ?_)
   | (with_reducible refine LeO.bind ?_ (fun _ => ?_))
   | exact ih0 _ _ _ _
   | exact reticuleref07_Right.mono _ _ _
   | exact reticuleref08_text.mono _ _ _
   | exact LeO.none _
   | refine LeO.ite ?_ ?_
   | refine LeO.bind ?_ (fun _ => ?_)
theorem reticuleref08_Print.mono : ∀ a0 a1 k, LeO (reticuleref08_Print.f k a0 a1) (reticuleref08_Print.f (k + 1) a0 a1) := by
 intro a0 a1 k
 have ih0 := reticuleref08_Print.mono_l k
 unfold reticuleref08_Print.f
 repeat' first
   | (with_reducible exact ih0 _ _ _ _)
   | (with_reducible exact reticuleref07_Right.mono _ _ _)
   | (with_reducible exact reticuleref08_text.mono _ _ _)
   | (with_reducible exact LeO.refl _)
   | (with_reducible exact LeO.none _)
   | (with_reducible refine LeO.ite ?_ ?_)
   | (with_reducible refine LeO.bind ?_ (fun _ => ?_))
   | exact ih0 _ _ _ _
   | exact reticuleref07_Right.mono _ _ _
   | exact reticuleref08_text.mono _ _ _
   | exact LeO.none _
   | refine LeO.ite ?_ ?_
   | refine LeO.bind ?_ (fun _ => ?_)
set_option maxHeartbeats 8000000 in
set_option maxRecDepth 100000 in
theorem reticuleref08_Print.calls (k : Nat) (A0 : Option Addr) (c0 : Nat) (l0 : List (S61)) (A1 : Option Addr) (c1 : Nat) (l1 : List Int) (r1 : ByteArray) (r2 : Int) (w : World) (HT : Aside0 (Go.Proofs.YtldjbgonlbmeaaaDoor.Dig.Tab w)) (hr0 : Kd.C k61 w A0 l0.length l0) (hc0 : l0.length ≤ c0) (hr1 : Kd.C (Kd.int .i64) w A1 l1.length l1) (hc1 : l1.length ≤ c1) (h : reticuleref08_Print.f k l0 l1 = some (r1, r2)) :
  Calls Tryd.prog 8 #[.slice A0 l0.length c0, .slice A1 l1.length c1] w fun e w' => e = .returned (.tuple #[.string r1, .int .i64 r2]) ∧ Below w.heap.size w w' := by
 have HR0 := Aside0.mk hr0
 have HC0 := Aside0.mk hc0
 clear hr0 hc0
 have HR1 := Aside0.mk hr1
 have HC1 := Aside0.mk hc1
 clear hr1 hc1
 have HB := Aside0.mk (Below.refl w.heap.size w)
 have H : ((reticuleref07_Right.f k l0 l1).bind fun t127 => (if t127 = true then (reticuleref08_Print.l0 k l0 l1 (⟨#[]⟩ : ByteArray) 0) else (some ((⟨#[]⟩ : ByteArray), 3)))) = some (r1, r2) := h
 clear h
 replace H := Option.bind_eq_some_iff.mp H
 obtain ⟨t127, A30, H⟩ := H
 replace H : (if t127 = true then (reticuleref08_Print.l0 k l0 l1 (⟨#[]⟩ : ByteArray) 0) else (some ((⟨#[]⟩ : ByteArray), 3))) = some (r1, r2) := H
 have A3 := Aside0.mk A30
 clear A30
 by_cases c4 : t127 = true
 ·subst c4
  have H1 : (reticuleref08_Print.l0 k l0 l1 (⟨#[]⟩ : ByteArray) 0) = some (r1, r2) := by rw [if_pos rfl] at H; exact H
  clear H
  have H := H1
  clear H1
  have H' := Aside0.mk H
  clear H
  go_enter Tryd.func8, Tryd.ntmps8
  go_wp2_with (first | ((with_reducible refine gate_callee (f := 22) rfl ?_); refine goesL_ (some 10) rfl rfl Tryd.func22 (by kernel_rfl) rfl #[.slice A0 l0.length c0, .slice A1 l1.length c1] rfl (by (try simp only [List.map_toArray, List.map_cons, List.map_nil]); first | done | rfl | (simp only [List.length_drop, List.length_take]; rfl)) ?_; (with_reducible refine (reticuleref07_Right.calls k _ _ l0 _ _ l1 true _ ?side1 ?side2 ?side3 ?side4 A3.out).mono ?_); (case side1 => repeat (first | exact HR0.out | (with_reducible refine Kd.C_alloc ?_ _) | (with_reducible refine Kd.C_drewN ?_ _) | (with_reducible refine Kd.C_drew ?_))); (case side2 => exact HC0.out); (case side3 => repeat (first | exact HR1.out | (with_reducible refine Kd.C_alloc ?_ _) | (with_reducible refine Kd.C_drewN ?_ _) | (with_reducible refine Kd.C_drew ?_))); (case side4 => exact HC1.out); rintro e w5 ⟨rfl, hb⟩; refine ⟨_, rfl, ?_⟩; have n0_ := Aside0.mk (below_step (by repeat (first | (with_reducible first | exact HB.out | apply below_alloc | apply pw_below_drewN | apply below_drew1) | exact HB.out | exact Below.refl _ _)) hb); clear HB; have HB := n0_; clear n0_; (try clear hb); (try clear hb2); (try clear hk); (try clear hi)))
  go_loopg [6, 7] k (fun kq v6 v7 w' => ∃ (x6_1 : ByteArray) (x7_1 : Int), v6 = .string x6_1 ∧ v7 = .int .i64 x7_1 ∧ Aside0 (reticuleref08_Print.l0 kq l0 l1 x6_1 x7_1 = some (r1, r2)) ∧ Aside0 (kq ≤ k) ∧ Aside0 (Below w.heap.size w w'))
  case atStart => exact ⟨((⟨#[]⟩ : ByteArray)), (0), (by first | rfl | (simp; done) | (simp [*]; done)), (by first | rfl | (simp; done) | (simp [*]; done)), H', ⟨Nat.le_refl _⟩, ⟨by repeat (first | (with_reducible first | exact HB.out | apply below_alloc | apply pw_below_drewN | apply below_drew1) | exact HB.out | exact Below.refl _ _)⟩⟩
  case round =>
   clear H'
   try clear c1
   try clear c2
   try clear p2
   try clear c4
   obtain ⟨x6_1, x7_1, rfl, rfl, HA, HK1, HB⟩ := hrel
   cases gk with
   | zero => exact absurd HA.out (by simp [reticuleref08_Print.l0])
   | succ k1 =>
    have H := HA.out
    clear HA
    simp only [reticuleref08_Print.l0] at H
    by_cases c6 : x7_1 < (l1.length : Int)
    ·rw [if_pos c6] at H
     have c6b0 : decide (x7_1 < (l1.length : Int)) = true := decide_eq_true c6
     clear c6
     by_cases c7 : 0 ≤ x7_1
     ·rw [if_pos c7] at H
      have c7b0 : decide (0 ≤ x7_1) = true := decide_eq_true c7
      clear c7
      replace H := Option.bind_eq_some_iff.mp H
      obtain ⟨t129, A80, H⟩ := H
      replace H : (if t129.size + 1 ≤ 9223372036854775807 then (if x6_1.size + (t129 ++ (⟨#[10]⟩ : ByteArray)).size ≤ 9223372036854775807 then (reticuleref08_Print.l0 k1 l0 l1 (x6_1 ++ (t129 ++ (⟨#[10]⟩ : ByteArray))) (wrap64 (x7_1 + 1))) else (none)) else (none)) = some (r1, r2) := H
      have A8 := Aside0.mk A80
      clear A80
      by_cases c9 : t129.size + 1 ≤ 9223372036854775807
      ·rw [if_pos c9] at H
       have c9b0 := eq_true c9
       have c9b1 : decide (t129.size + 1 ≤ 9223372036854775807) = true := decide_eq_true c9
       try have c9b2 : (9223372036854775807 < t129.size + 1) = False := eq_false (Nat.not_lt.2 c9)
       by_cases c10 : x6_1.size + (t129 ++ (⟨#[10]⟩ : ByteArray)).size ≤ 9223372036854775807
       ·rw [if_pos c10] at H
        have c10b0 := eq_true c10
        have c10b1 : decide (x6_1.size + (t129 ++ (⟨#[10]⟩ : ByteArray)).size ≤ 9223372036854775807) = true := decide_eq_true c10
        try have c10b2 : (9223372036854775807 < x6_1.size + (t129 ++ (⟨#[10]⟩ : ByteArray)).size) = False := eq_false (Nat.not_lt.2 c10)
        try (have c10b3 := c10b2; simp only [ByteArray.size_append, show (⟨#[10]⟩ : ByteArray).size = 1 from rfl] at c10b3)
        have H' := Aside0.mk H
        clear H
        have p128 : 0 ≤ (x7_1 : Int) := of_decide_eq_true (by first | (with_reducible assumption) | assumption)
        have q128 : x7_1 < (l1.length : Int) := of_decide_eq_true (by first | (with_reducible assumption) | assumption)
        obtain ⟨ad128, e128, hx128_0⟩ := Kd.at_int HR1.out x7_1 p128 q128
        cases e128
        replace hx128_0 := (HB.out.cell (World.block_lt_of_cell? w _ hx128_0)).trans hx128_0
        replace p128 := eq_true p128
        replace q128 := eq_true q128
        go_wp2_with (first | ((with_reducible refine gate_callee (f := 23) rfl ?_); refine goesL_ (some 24) rfl rfl Tryd.func23 (by kernel_rfl) rfl #[.slice A0 l0.length c0, .int .i64 (rd l1 x7_1)] rfl (by (try simp only [List.map_toArray, List.map_cons, List.map_nil]); first | done | rfl | (simp only [List.length_drop, List.length_take]; rfl)) ?_; (with_reducible refine (reticuleref08_text.calls k1 _ _ l0 (rd l1 x7_1) t129 _ ?sideT ?side1 ?side2 A8.out).mono ?_); (case sideT => exact Go.Proofs.YtldjbgonlbmeaaaDoor.Dig.Tab.bel HT (by repeat (first | (with_reducible first | exact HB.out | apply below_alloc | apply pw_below_drewN | apply below_drew1 | apply below_drew) | exact HB.out | exact Below.refl _ _))); (case side1 => repeat (first | exact (Kd.C_below HR0.out HB.out) | (with_reducible refine Kd.C_alloc ?_ _) | (with_reducible refine Kd.C_drewN ?_ _) | (with_reducible refine Kd.C_drew ?_))); (case side2 => exact HC0.out); rintro e w11 ⟨rfl, hb⟩; refine ⟨_, rfl, ?_⟩; have n0_ := Aside0.mk (below_step (by repeat (first | (with_reducible first | exact HB.out | apply below_alloc | apply pw_below_drewN | apply below_drew1) | exact HB.out | exact Below.refl _ _)) hb); clear HB; have HB := n0_; clear n0_; (try clear hb); (try clear hb2); (try clear hk); (try clear hi)))
        go_roundg k1
        case measure => have := HK1.out; omega
        case rel => exact ⟨(x6_1 ++ (t129 ++ (⟨#[10]⟩ : ByteArray))), (wrap64 (x7_1 + 1)), (by first | rfl | (simp; done) | (simp [*]; done)), (by first | rfl | (simp; done) | (simp [*]; done)), H', ⟨by have := HK1.out; omega⟩, ⟨by repeat (first | (with_reducible first | exact HB.out | apply below_alloc | apply pw_below_drewN | apply below_drew1) | exact HB.out | exact Below.refl _ _)⟩⟩
       ·rw [if_neg c10] at H
        exact absurd H (by simp)
      ·rw [if_neg c9] at H
       exact absurd H (by simp)
     ·rw [if_neg c7] at H
      exact absurd H (by simp)
    ·rw [if_neg c6] at H
     have c6b0 : decide (x7_1 < (l1.length : Int)) = false := decide_eq_false c6
     clear c6
     simp only [Option.some.injEq, Prod.mk.injEq] at H
     obtain ⟨rfl, rfl⟩ := H
     go_wp2
     go_ret2
     exact ⟨by first | rfl | (simp [errW_none, errW_some] <;> rfl) | (simp [*, errW_none, errW_some] <;> rfl), by repeat (first | (with_reducible first | exact HB.out | apply below_alloc | apply pw_below_drewN | apply below_drew1) | exact HB.out | exact Below.refl _ _)⟩
 ·replace c4 := Bool.eq_false_iff.mpr c4
  subst c4
  have H1 : (some ((⟨#[]⟩ : ByteArray), 3)) = some (r1, r2) := by rw [if_neg (show ¬ (false = true) by decide)] at H; exact H
  clear H
  have H := H1
  clear H1
  simp only [Option.some.injEq, Prod.mk.injEq] at H
  obtain ⟨rfl, rfl⟩ := H
  go_enter Tryd.func8, Tryd.ntmps8
  go_wp2_with (first | ((with_reducible refine gate_callee (f := 22) rfl ?_); refine goesL_ (some 10) rfl rfl Tryd.func22 (by kernel_rfl) rfl #[.slice A0 l0.length c0, .slice A1 l1.length c1] rfl (by (try simp only [List.map_toArray, List.map_cons, List.map_nil]); first | done | rfl | (simp only [List.length_drop, List.length_take]; rfl)) ?_; (with_reducible refine (reticuleref07_Right.calls k _ _ l0 _ _ l1 false _ ?side1 ?side2 ?side3 ?side4 A3.out).mono ?_); (case side1 => repeat (first | exact HR0.out | (with_reducible refine Kd.C_alloc ?_ _) | (with_reducible refine Kd.C_drewN ?_ _) | (with_reducible refine Kd.C_drew ?_))); (case side2 => exact HC0.out); (case side3 => repeat (first | exact HR1.out | (with_reducible refine Kd.C_alloc ?_ _) | (with_reducible refine Kd.C_drewN ?_ _) | (with_reducible refine Kd.C_drew ?_))); (case side4 => exact HC1.out); rintro e w12 ⟨rfl, hb⟩; refine ⟨_, rfl, ?_⟩; have n0_ := Aside0.mk (below_step (by repeat (first | (with_reducible first | exact HB.out | apply below_alloc | apply pw_below_drewN | apply below_drew1) | exact HB.out | exact Below.refl _ _)) hb); clear HB; have HB := n0_; clear n0_; (try clear hb); (try clear hb2); (try clear hk); (try clear hi)))
  go_ret2
  exact ⟨by first | rfl | (simp [errW_none, errW_some] <;> rfl) | (simp [*, errW_none, errW_some] <;> rfl), by repeat (first | (with_reducible first | exact HB.out | apply below_alloc | apply pw_below_drewN | apply below_drew1) | exact HB.out | exact Below.refl _ _)⟩

end Go.Proofs.YtldjbgonlbmeaaaDoor.PR
end
section
-- Machine-made walks, written for this claim by a program of this session (plug.py).
namespace Go.Proofs.YtldjbgonlbmeaaaDoor.PR
open Go.RowKit Go.Proofs.YtldjbgonlbmeaaaDoor.PA Go.Proofs.YtldjbgonlbmeaaaDoor.Dig Go.Proofs.YtldjbgonlbmeaaaDoorW.PrintWords Go.Proofs.YtldjbgonlbmeaaaDoorW.PrintLast Go.Proofs.YtldjbgonlbmeaaaDoorW.PrintMore
attribute [local go_sem] max2_int min2_int max_two min_two max_three min_three max_four min_four   -- for this text's walks alone
set_option linter.unusedVariables false
set_option linter.unusedSimpArgs false

def reticuleref08_One.j0 : Nat → List (S61) → Int → Bool → Option (ByteArray × Int)
 | 0, _, _, _ => none
 | k + 1, x0, x1, x6 => if x6 = true then (some ((⟨#[]⟩ : ByteArray), 2)) else ((reticuleref08_may.f k x0 x1 400).bind fun t130 => (if t130 < 0 then (some ((⟨#[]⟩ : ByteArray), 3)) else ((reticuleref08_text.f k x0 x1).bind fun t131 => (some (t131, 0)))))
def reticuleref08_One.f (k : Nat) (l0 : List (S61)) (a1 : Int) : Option (ByteArray × Int) := if a1 < 0 then (reticuleref08_One.j0 k l0 a1 true) else (reticuleref08_One.j0 k l0 a1 (decide (a1 ≥ (l0.length : Int))))
theorem reticuleref08_One.mono_l : ∀ k, (∀ y0 y1 y2, LeO (reticuleref08_One.j0 k y0 y1 y2) (reticuleref08_One.j0 (k + 1) y0 y1 y2))
 | 0 => fun _ _ _ r h => by simp [reticuleref08_One.j0] at h
 | k + 1 => by
  have ih0 := reticuleref08_One.mono_l k
  ·intro y0 y1 y2
   unfold reticuleref08_One.j0
   repeat' first
   | (with_reducible exact ih0 _ _ _)
   | (with_reducible exact reticuleref08_may.mono _ _ _ _)
   | (with_reducible exact reticuleref08_text.mono _ _ _)
   | (with_reducible exact LeO.refl _)
   | (with_reducible exact LeO.none _)
   | (with_reducible refine LeO.ite ?_ ?_)
   | (with_reducible refine LeO.bind ?_ (fun _ => ?_))
   | exact ih0 _ _ _
   | exact reticuleref08_may.mono _ _ _ _
   | exact reticuleref08_text.mono _ _ _
   | exact LeO.none _
   | refine LeO.ite ?_ ?_
   | refine LeO.bind ?_ (fun _ => ?_)
theorem reticuleref08_One.mono : ∀ a0 a1 k, LeO (reticuleref08_One.f k a0 a1) (reticuleref08_One.f (k + 1) a0 a1) := by
 intro a0 a1 k
 have ih0 := reticuleref08_One.mono_l k
 unfold reticuleref08_One.f
 repeat' first
   | (with_reducible exact ih0 _ _ _)
   | (with_reducible exact reticuleref08_may.mono _ _ _ _)
   | (with_reducible exact reticuleref08_text.mono _ _ _)
   | (with_reducible exact LeO.refl _)
   | (with_reducible exact LeO.none _)
   | (with_reducible refine LeO.ite ?_ ?_)
   | (with_reducible refine LeO.bind ?_ (fun _ => ?_))
   | exact ih0 _ _ _
   | exact reticuleref08_may.mono _ _ _ _
   | exact reticuleref08_text.mono _ _ _
   | exact LeO.none _
   | refine LeO.ite ?_ ?_
   | refine LeO.bind ?_ (fun _ => ?_)
set_option maxHeartbeats 8000000 in
set_option maxRecDepth 100000 in
theorem reticuleref08_One.calls (k : Nat) (A0 : Option Addr) (c0 : Nat) (l0 : List (S61)) (a1 : Int) (r1 : ByteArray) (r2 : Int) (w : World) (HT : Aside0 (Go.Proofs.YtldjbgonlbmeaaaDoor.Dig.Tab w)) (hr0 : Kd.C k61 w A0 l0.length l0) (hc0 : l0.length ≤ c0) (h : reticuleref08_One.f k l0 a1 = some (r1, r2)) :
  Calls Tryd.prog 10 #[.slice A0 l0.length c0, .int .i64 a1] w fun e w' => e = .returned (.tuple #[.string r1, .int .i64 r2]) ∧ Below w.heap.size w w' := by
 have HR0 := Aside0.mk hr0
 have HC0 := Aside0.mk hc0
 clear hr0 hc0
 have HB := Aside0.mk (Below.refl w.heap.size w)
 have H : (if a1 < 0 then (reticuleref08_One.j0 k l0 a1 true) else (reticuleref08_One.j0 k l0 a1 (decide (a1 ≥ (l0.length : Int))))) = some (r1, r2) := h
 clear h
 have HC3 := Aside0.mk H
 clear H
 go_enter Tryd.func10, Tryd.ntmps10
 go_upto_region 1 with (fail)
 go_cut [6] (fun v6 wc => ∃ (kq : Nat) (x6_2 : Bool), v6 = .bool x6_2 ∧ Aside0 (reticuleref08_One.j0 kq l0 a1 x6_2 = some (r1, r2)) ∧ Aside0 (kq ≤ k) ∧ Aside0 (Below w.heap.size w wc))
 case first =>
  have H := HC3.out
  clear HC3
  by_cases c4 : a1 < 0
  ·rw [if_pos c4] at H
   have c4b0 : decide (a1 < 0) = true := decide_eq_true c4
   clear c4
   (first | rw [c4b0] | (simp only [i64_w, i32_w]; rw [c4b0]) | skip)
   have H' := Aside0.mk H
   clear H
   go_wp2
   go_meet
   case rel => exact ⟨_, (true), (by first | rfl | (simp; done) | (simp [*]; done)), H', ⟨by first | omega | exact Nat.le_refl _⟩, ⟨by repeat (first | (with_reducible first | exact HB.out | apply below_alloc | apply pw_below_drewN | apply below_drew1) | exact HB.out | exact Below.refl _ _)⟩⟩
  ·rw [if_neg c4] at H
   have c4b0 : decide (a1 < 0) = false := decide_eq_false c4
   clear c4
   (first | rw [c4b0] | (simp only [i64_w, i32_w]; rw [c4b0]) | skip)
   have H' := Aside0.mk H
   clear H
   go_wp2
   go_meet
   case rel => exact ⟨_, (decide (a1 ≥ (l0.length : Int))), (by first | rfl | (simp; done) | (simp [*]; done)), H', ⟨by first | omega | exact Nat.le_refl _⟩, ⟨by repeat (first | (with_reducible first | exact HB.out | apply below_alloc | apply pw_below_drewN | apply below_drew1) | exact HB.out | exact Below.refl _ _)⟩⟩
 case rest =>
  clear HC3
  try clear c1
  try clear p2
  try clear c4
  try clear c4b0
  obtain ⟨kq, x6_2, rfl, HA, HJ2, HB⟩ := hcut
  cases kq with
  | zero => exact absurd HA.out (by simp [reticuleref08_One.j0])
  | succ kj2 =>
   have H := HA.out
   clear HA
   simp only [reticuleref08_One.j0] at H
   by_cases c5 : x6_2 = true
   ·subst c5
    have H1 : (some ((⟨#[]⟩ : ByteArray), 2)) = some (r1, r2) := by rw [if_pos rfl] at H; exact H
    clear H
    have H := H1
    clear H1
    simp only [Option.some.injEq, Prod.mk.injEq] at H
    obtain ⟨rfl, rfl⟩ := H
    go_wp2
    go_ret2
    exact ⟨by first | rfl | (simp [errW_none, errW_some] <;> rfl) | (simp [*, errW_none, errW_some] <;> rfl), by repeat (first | (with_reducible first | exact HB.out | apply below_alloc | apply pw_below_drewN | apply below_drew1) | exact HB.out | exact Below.refl _ _)⟩
   ·replace c5 := Bool.eq_false_iff.mpr c5
    subst c5
    have H1 : ((reticuleref08_may.f kj2 l0 a1 400).bind fun t130 => (if t130 < 0 then (some ((⟨#[]⟩ : ByteArray), 3)) else ((reticuleref08_text.f kj2 l0 a1).bind fun t131 => (some (t131, 0))))) = some (r1, r2) := by rw [if_neg (show ¬ (false = true) by decide)] at H; exact H
    clear H
    have H := H1
    clear H1
    replace H := Option.bind_eq_some_iff.mp H
    obtain ⟨t130, A60, H⟩ := H
    replace H : (if t130 < 0 then (some ((⟨#[]⟩ : ByteArray), 3)) else ((reticuleref08_text.f kj2 l0 a1).bind fun t131 => (some (t131, 0)))) = some (r1, r2) := H
    have A6 := Aside0.mk A60
    clear A60
    by_cases c7 : t130 < 0
    ·rw [if_pos c7] at H
     have c7b0 : decide (t130 < 0) = true := decide_eq_true c7
     clear c7
     simp only [Option.some.injEq, Prod.mk.injEq] at H
     obtain ⟨rfl, rfl⟩ := H
     go_wp2_with (first | ((with_reducible refine gate_callee (f := 26) rfl ?_); refine goesL_ (some 18) rfl rfl Tryd.func26 (by kernel_rfl) rfl #[.slice A0 l0.length c0, .int .i64 a1, .int .i64 400] rfl (by (try simp only [List.map_toArray, List.map_cons, List.map_nil]); first | done | rfl | (simp only [List.length_drop, List.length_take]; rfl)) ?_; (with_reducible refine (reticuleref08_may.calls kj2 _ _ l0 a1 400 t130 _ ?side1 ?side2 A6.out).mono ?_); (case side1 => repeat (first | exact (Kd.C_below HR0.out HB.out) | (with_reducible refine Kd.C_alloc ?_ _) | (with_reducible refine Kd.C_drewN ?_ _) | (with_reducible refine Kd.C_drew ?_))); (case side2 => exact HC0.out); rintro e w8 ⟨rfl, hb⟩; refine ⟨_, rfl, ?_⟩; have n0_ := Aside0.mk (below_step (by repeat (first | (with_reducible first | exact HB.out | apply below_alloc | apply pw_below_drewN | apply below_drew1) | exact HB.out | exact Below.refl _ _)) hb); clear HB; have HB := n0_; clear n0_; (try clear hb); (try clear hb2); (try clear hk); (try clear hi)))
     go_ret2
     exact ⟨by first | rfl | (simp [errW_none, errW_some] <;> rfl) | (simp [*, errW_none, errW_some] <;> rfl), by repeat (first | (with_reducible first | exact HB.out | apply below_alloc | apply pw_below_drewN | apply below_drew1) | exact HB.out | exact Below.refl _ _)⟩
    ·rw [if_neg c7] at H
     have c7b0 : decide (t130 < 0) = false := decide_eq_false c7
     clear c7
     replace H := Option.bind_eq_some_iff.mp H
     obtain ⟨t131, A90, H⟩ := H
     replace H : (some (t131, 0)) = some (r1, r2) := H
     have A9 := Aside0.mk A90
     clear A90
     simp only [Option.some.injEq, Prod.mk.injEq] at H
     obtain ⟨rfl, rfl⟩ := H
     go_wp2_with (first | ((with_reducible refine gate_callee (f := 26) rfl ?_); refine goesL_ (some 18) rfl rfl Tryd.func26 (by kernel_rfl) rfl #[.slice A0 l0.length c0, .int .i64 a1, .int .i64 400] rfl (by (try simp only [List.map_toArray, List.map_cons, List.map_nil]); first | done | rfl | (simp only [List.length_drop, List.length_take]; rfl)) ?_; (with_reducible refine (reticuleref08_may.calls kj2 _ _ l0 a1 400 t130 _ ?side1 ?side2 A6.out).mono ?_); (case side1 => repeat (first | exact (Kd.C_below HR0.out HB.out) | (with_reducible refine Kd.C_alloc ?_ _) | (with_reducible refine Kd.C_drewN ?_ _) | (with_reducible refine Kd.C_drew ?_))); (case side2 => exact HC0.out); rintro e w10 ⟨rfl, hb⟩; refine ⟨_, rfl, ?_⟩; have n0_ := Aside0.mk (below_step (by repeat (first | (with_reducible first | exact HB.out | apply below_alloc | apply pw_below_drewN | apply below_drew1) | exact HB.out | exact Below.refl _ _)) hb); clear HB; have HB := n0_; clear n0_; (try clear hb); (try clear hb2); (try clear hk); (try clear hi)) | ((with_reducible refine gate_callee (f := 23) rfl ?_); refine goesL_ (some 22) rfl rfl Tryd.func23 (by kernel_rfl) rfl #[.slice A0 l0.length c0, .int .i64 a1] rfl (by (try simp only [List.map_toArray, List.map_cons, List.map_nil]); first | done | rfl | (simp only [List.length_drop, List.length_take]; rfl)) ?_; (with_reducible refine (reticuleref08_text.calls kj2 _ _ l0 a1 t131 _ ?sideT ?side1 ?side2 A9.out).mono ?_); (case sideT => exact Go.Proofs.YtldjbgonlbmeaaaDoor.Dig.Tab.bel HT (by repeat (first | (with_reducible first | exact HB.out | apply below_alloc | apply pw_below_drewN | apply below_drew1 | apply below_drew) | exact HB.out | exact Below.refl _ _))); (case side1 => repeat (first | exact (Kd.C_below HR0.out HB.out) | (with_reducible refine Kd.C_alloc ?_ _) | (with_reducible refine Kd.C_drewN ?_ _) | (with_reducible refine Kd.C_drew ?_))); (case side2 => exact HC0.out); rintro e w11 ⟨rfl, hb⟩; refine ⟨_, rfl, ?_⟩; have n0_ := Aside0.mk (below_step (by repeat (first | (with_reducible first | exact HB.out | apply below_alloc | apply pw_below_drewN | apply below_drew1) | exact HB.out | exact Below.refl _ _)) hb); clear HB; have HB := n0_; clear n0_; (try clear hb); (try clear hb2); (try clear hk); (try clear hi)))
     go_ret2
     exact ⟨by first | rfl | (simp [errW_none, errW_some] <;> rfl) | (simp [*, errW_none, errW_some] <;> rfl), by repeat (first | (with_reducible first | exact HB.out | apply below_alloc | apply pw_below_drewN | apply below_drew1) | exact HB.out | exact Below.refl _ _)⟩

end Go.Proofs.YtldjbgonlbmeaaaDoor.PR
end
section
-- Machine-made walks, written for this claim by a program of this session (plug.py).
namespace Go.Proofs.YtldjbgonlbmeaaaDoor.PR
open Go.RowKit Go.Proofs.YtldjbgonlbmeaaaDoor.PA Go.Proofs.YtldjbgonlbmeaaaDoor.Dig Go.Proofs.YtldjbgonlbmeaaaDoorW.PrintWords Go.Proofs.YtldjbgonlbmeaaaDoorW.PrintLast Go.Proofs.YtldjbgonlbmeaaaDoorW.PrintMore
attribute [local go_sem] max2_int min2_int max_two min_two max_three min_three max_four min_four   -- for this text's walks alone
set_option linter.unusedVariables false
set_option linter.unusedSimpArgs false

mutual
def reticuleref08_pretty.j1 : Nat → List (S61) → Int → Int → Int → Int → ByteArray → Int → List Int → Int → Option (ByteArray)
 | 0, _, _, _, _, _, _, _, _, _ => none
 | k + 1, x0, x1, x2, x8, x134000, x134001, x134002, x134003, x134004 => if x134000 = 1 then (reticuleref08_pretty.j2 k x0 x1 x2 x8 (x8 == (x134003.length : Int)) x134000 x134001 x134002 x134003 x134004) else (reticuleref08_pretty.j2 k x0 x1 x2 x8 true x134000 x134001 x134002 x134003 x134004)
def reticuleref08_pretty.j2 : Nat → List (S61) → Int → Int → Int → Bool → Int → ByteArray → Int → List Int → Int → Option (ByteArray)
 | 0, _, _, _, _, _, _, _, _, _, _ => none
 | k + 1, x0, x1, x2, x8, x44, x134000, x134001, x134002, x134003, x134004 => if x44 = true then ((reticuleref08_text.f k x0 x1).bind fun t136 => (some t136)) else (reticuleref08_pretty.l1 k x0 x2 x8 (⟨#[40]⟩ : ByteArray) 0 x134000 x134001 x134002 x134003 x134004)
def reticuleref08_pretty.l1 : Nat → List (S61) → Int → Int → ByteArray → Int → Int → ByteArray → Int → List Int → Int → Option (ByteArray)
 | 0, _, _, _, _, _, _, _, _, _, _ => none
 | k + 1, x0, x2, x8, x9, x10, x134000, x134001, x134002, x134003, x134004 => if x10 < (x134003.length : Int) then (if x10 ≥ x8 then (if x9.size + 1 ≤ 9223372036854775807 then (reticuleref08_pretty.l2 k x0 x2 x8 (x9 ++ (⟨#[10]⟩ : ByteArray)) x10 0 x134000 x134001 x134002 x134003 x134004) else (none)) else (if x10 > 0 then (if 0 ≤ x10 then ((reticuleref08_text.f k x0 (rd x134003 x10)).bind fun t140 => (if 1 + t140.size ≤ 9223372036854775807 then (if x9.size + ((⟨#[32]⟩ : ByteArray) ++ t140).size ≤ 9223372036854775807 then (reticuleref08_pretty.l1 k x0 x2 x8 (x9 ++ ((⟨#[32]⟩ : ByteArray) ++ t140)) (wrap64 (x10 + 1)) x134000 x134001 x134002 x134003 x134004) else (none)) else (none))) else (none)) else (if 0 ≤ x10 then ((reticuleref08_text.f k x0 (rd x134003 x10)).bind fun t142 => (if x9.size + t142.size ≤ 9223372036854775807 then (reticuleref08_pretty.l1 k x0 x2 x8 (x9 ++ t142) (wrap64 (x10 + 1)) x134000 x134001 x134002 x134003 x134004) else (none))) else (none)))) else (if x9.size + 1 ≤ 9223372036854775807 then (some (x9 ++ (⟨#[41]⟩ : ByteArray))) else (none))
def reticuleref08_pretty.l2 : Nat → List (S61) → Int → Int → ByteArray → Int → Int → Int → ByteArray → Int → List Int → Int → Option (ByteArray)
 | 0, _, _, _, _, _, _, _, _, _, _, _ => none
 | k + 1, x0, x2, x8, x9, x10, x11, x134000, x134001, x134002, x134003, x134004 => if x11 < x2 then (if x9.size + 2 ≤ 9223372036854775807 then (reticuleref08_pretty.l2 k x0 x2 x8 (x9 ++ (⟨#[32, 32]⟩ : ByteArray)) x10 (wrap64 (x11 + 1)) x134000 x134001 x134002 x134003 x134004) else (none)) else (if 0 ≤ x10 then (if x10 < (x134003.length : Int) then ((reticuleref08_pretty.f k x0 (rd x134003 x10) (wrap64 (x2 + 1))).bind fun t138 => (if x9.size + t138.size ≤ 9223372036854775807 then (reticuleref08_pretty.l1 k x0 x2 x8 (x9 ++ t138) (wrap64 (x10 + 1)) x134000 x134001 x134002 x134003 x134004) else (none))) else (none)) else (none))
def reticuleref08_pretty.l0 : Nat → List (S61) → Int → Int → Int → Int → ByteArray → Int → List Int → Int → Option (ByteArray)
 | 0, _, _, _, _, _, _, _, _, _ => none
 | k + 1, x0, x1, x2, x8, x134000, x134001, x134002, x134003, x134004 => if x8 < (x134003.length : Int) then (if 0 ≤ x8 then (if 0 ≤ (rd x134003 x8) then (if (rd x134003 x8) < (x0.length : Int) then (if ((rd_T61 x0 (rd x134003 x8)).f0) = 1 then (reticuleref08_pretty.j1 k x0 x1 x2 x8 x134000 x134001 x134002 x134003 x134004) else (reticuleref08_pretty.l0 k x0 x1 x2 (wrap64 (x8 + 1)) x134000 x134001 x134002 x134003 x134004)) else (none)) else (none)) else (none)) else (reticuleref08_pretty.j1 k x0 x1 x2 x8 x134000 x134001 x134002 x134003 x134004)
def reticuleref08_pretty.f : Nat → List (S61) → Int → Int → Option (ByteArray)
 | 0, _, _, _ => none
 | k + 1, l0, a1, a2 => if 0 ≤ a1 then (if a1 < (l0.length : Int) then (reticuleref08_pretty.l0 k l0 a1 a2 0 ((rd_T61 l0 a1).f0) ((rd_T61 l0 a1).f1) ((rd_T61 l0 a1).f2) ((rd_T61 l0 a1).f3) ((rd_T61 l0 a1).f4)) else (none)) else (none)
end
theorem reticuleref08_pretty.mono_l : ∀ k, (∀ y0 y1 y2, LeO (reticuleref08_pretty.f k y0 y1 y2) (reticuleref08_pretty.f (k + 1) y0 y1 y2)) ∧ (∀ y0 y1 y2 y3 y4 y5 y6 y7 y8, LeO (reticuleref08_pretty.j1 k y0 y1 y2 y3 y4 y5 y6 y7 y8) (reticuleref08_pretty.j1 (k + 1) y0 y1 y2 y3 y4 y5 y6 y7 y8)) ∧ (∀ y0 y1 y2 y3 y4 y5 y6 y7 y8 y9, LeO (reticuleref08_pretty.j2 k y0 y1 y2 y3 y4 y5 y6 y7 y8 y9) (reticuleref08_pretty.j2 (k + 1) y0 y1 y2 y3 y4 y5 y6 y7 y8 y9)) ∧ (∀ y0 y1 y2 y3 y4 y5 y6 y7 y8 y9, LeO (reticuleref08_pretty.l1 k y0 y1 y2 y3 y4 y5 y6 y7 y8 y9) (reticuleref08_pretty.l1 (k + 1) y0 y1 y2 y3 y4 y5 y6 y7 y8 y9)) ∧ (∀ y0 y1 y2 y3 y4 y5 y6 y7 y8 y9 y10, LeO (reticuleref08_pretty.l2 k y0 y1 y2 y3 y4 y5 y6 y7 y8 y9 y10) (reticuleref08_pretty.l2 (k + 1) y0 y1 y2 y3 y4 y5 y6 y7 y8 y9 y10)) ∧ (∀ y0 y1 y2 y3 y4 y5 y6 y7 y8, LeO (reticuleref08_pretty.l0 k y0 y1 y2 y3 y4 y5 y6 y7 y8) (reticuleref08_pretty.l0 (k + 1) y0 y1 y2 y3 y4 y5 y6 y7 y8))
 | 0 => ⟨fun _ _ _ r h => by simp [reticuleref08_pretty.f] at h, fun _ _ _ _ _ _ _ _ _ r h => by simp [reticuleref08_pretty.j1] at h, fun _ _ _ _ _ _ _ _ _ _ r h => by simp [reticuleref08_pretty.j2] at h, fun _ _ _ _ _ _ _ _ _ _ r h => by simp [reticuleref08_pretty.l1] at h, fun _ _ _ _ _ _ _ _ _ _ _ r h => by simp [reticuleref08_pretty.l2] at h, fun _ _ _ _ _ _ _ _ _ r h => by simp [reticuleref08_pretty.l0] at h⟩
 | k + 1 => by
  obtain ⟨ih0, ih1, ih2, ih3, ih4, ih5⟩ := reticuleref08_pretty.mono_l k
  refine ⟨?_, ?_, ?_, ?_, ?_, ?_⟩
  ·intro y0 y1 y2
   unfold reticuleref08_pretty.f
   repeat' first
   | (with_reducible exact ih0 _ _ _)
   | (with_reducible exact ih1 _ _ _ _ _ _ _ _ _)
   | (with_reducible exact ih2 _ _ _ _ _ _ _ _ _ _)
   | (with_reducible exact ih3 _ _ _ _ _ _ _ _ _ _)
   | (with_reducible exact ih4 _ _ _ _ _ _ _ _ _ _ _)
   | (with_reducible exact ih5 _ _ _ _ _ _ _ _ _)
   | (with_reducible exact reticuleref08_text.mono _ _ _)
   | (with_reducible exact LeO.refl _)
   | (with_reducible exact LeO.none _)
   | (with_reducible refine LeO.ite ?_ ?_)
   | (with_reducible refine LeO.bind ?_ (fun _ => ?_))
   | exact ih0 _ _ _
   | exact ih1 _ _ _ _ _ _ _ _ _
   | exact ih2 _ _ _ _ _ _ _ _ _ _
   | exact ih3 _ _ _ _ _ _ _ _ _ _
   | exact ih4 _ _ _ _ _ _ _ _ _ _ _
   | exact ih5 _ _ _ _ _ _ _ _ _
   | exact reticuleref08_text.mono _ _ _
   | exact LeO.none _
   | refine LeO.ite ?_ ?_
   | refine LeO.bind ?_ (fun _ => ?_)
  ·intro y0 y1 y2 y3 y4 y5 y6 y7 y8
   unfold reticuleref08_pretty.j1
   repeat' first
   | (with_reducible exact ih0 _ _ _)
   | (with_reducible exact ih1 _ _ _ _ _ _ _ _ _)
   | (with_reducible exact ih2 _ _ _ _ _ _ _ _ _ _)
   | (with_reducible exact ih3 _ _ _ _ _ _ _ _ _ _)
   | (with_reducible exact ih4 _ _ _ _ _ _ _ _ _ _ _)
   | (with_reducible exact ih5 _ _ _ _ _ _ _ _ _)
   | (with_reducible exact reticuleref08_text.mono _ _ _)
   | (with_reducible exact LeO.refl _)
   | (with_reducible exact LeO.none _)
   | (with_reducible refine LeO.ite ?_ ?_)
   | (with_reducible refine LeO.bind ?_ (fun _ => ?_))
   | exact ih0 _ _ _
   | exact ih1 _ _ _ _ _ _ _ _ _
   | exact ih2 _ _ _ _ _ _ _ _ _ _
   | exact ih3 _ _ _ _ _ _ _ _ _ _
   | exact ih4 _ _ _ _ _ _ _ _ _ _ _
   | exact ih5 _ _ _ _ _ _ _ _ _
   | exact reticuleref08_text.mono _ _ _
   | exact LeO.none _
   | refine LeO.ite ?_ ?_
   | refine LeO.bind ?_ (fun _ => ?_)
  ·intro y0 y1 y2 y3 y4 y5 y6 y7 y8 y9
   unfold reticuleref08_pretty.j2
   repeat' first
   | (with_reducible exact ih0 _ _ _)
   | (with_reducible exact ih1 _ _ _ _ _ _ _ _ _)
   | (with_reducible exact ih2 _ _ _ _ _ _ _ _ _ _)
   | (with_reducible exact ih3 _ _ _ _ _ _ _ _ _ _)
   | (with_reducible exact ih4 _ _ _ _ _ _ _ _ _ _ _)
   | (with_reducible exact ih5 _ _ _ _ _ _ _ _ _)
   | (with_reducible exact reticuleref08_text.mono _ _ _)
   | (with_reducible exact LeO.refl _)
   | (with_reducible exact LeO.none _)
   | (with_reducible refine LeO.ite ?_ ?_)
   | (with_reducible refine LeO.bind ?_ (fun _ => ?_))
   | exact ih0 _ _ _
   | exact ih1 _ _ _ _ _ _ _ _ _
   | exact ih2 _ _ _ _ _ _ _ _ _ _
   | exact ih3 _ _ _ _ _ _ _ _ _ _
   | exact ih4 _ _ _ _ _ _ _ _ _ _ _
   | exact ih5 _ _ _ _ _ _ _ _ _
   | exact reticuleref08_text.mono _ _ _
   | exact LeO.none _
   | refine LeO.ite ?_ ?_
   | refine LeO.bind ?_ (fun _ => ?_)
  ·intro y0 y1 y2 y3 y4 y5 y6 y7 y8 y9
   unfold reticuleref08_pretty.l1
   repeat' first
   | (with_reducible exact ih0 _ _ _)
   | (with_reducible exact ih1 _ _ _ _ _ _ _ _ _)
   | (with_reducible exact ih2 _ _ _ _ _ _ _ _ _ _)
   | (with_reducible exact ih3 _ _ _ _ _ _ _ _ _ _)
   | (with_reducible exact ih4 _ _ _ _ _ _ _ _ _ _ _)
   | (with_reducible exact ih5 _ _ _ _ _ _ _ _ _)
   | (with_reducible exact reticuleref08_text.mono _ _ _)
   | (with_reducible exact LeO.refl _)
   | (with_reducible exact LeO.none _)
   | (with_reducible refine LeO.ite ?_ ?_)
   | (with_reducible refine LeO.bind ?_ (fun _ => ?_))
   | exact ih0 _ _ _
   | exact ih1 _ _ _ _ _ _ _ _ _
   | exact ih2 _ _ _ _ _ _ _ _ _ _
   | exact ih3 _ _ _ _ _ _ _ _ _ _
   | exact ih4 _ _ _ _ _ _ _ _ _ _ _
   | exact ih5 _ _ _ _ _ _ _ _ _
   | exact reticuleref08_text.mono _ _ _
   | exact LeO.none _
   | refine LeO.ite ?_ ?_
   | refine LeO.bind ?_ (fun _ => ?_)
  ·intro y0 y1 y2 y3 y4 y5 y6 y7 y8 y9 y10
   unfold reticuleref08_pretty.l2
   repeat' first
   | (with_reducible exact ih0 _ _ _)
   | (with_reducible exact ih1 _ _ _ _ _ _ _ _ _)
   | (with_reducible exact ih2 _ _ _ _ _ _ _ _ _ _)
   | (with_reducible exact ih3 _ _ _ _ _ _ _ _ _ _)
   | (with_reducible exact ih4 _ _ _ _ _ _ _ _ _ _ _)
   | (with_reducible exact ih5 _ _ _ _ _ _ _ _ _)
   | (with_reducible exact reticuleref08_text.mono _ _ _)
   | (with_reducible exact LeO.refl _)
   | (with_reducible exact LeO.none _)
   | (with_reducible refine LeO.ite ?_ ?_)
   | (with_reducible refine LeO.bind ?_ (fun _ => ?_))
   | exact ih0 _ _ _
   | exact ih1 _ _ _ _ _ _ _ _ _
   | exact ih2 _ _ _ _ _ _ _ _ _ _
   | exact ih3 _ _ _ _ _ _ _ _ _ _
   | exact ih4 _ _ _ _ _ _ _ _ _ _ _
   | exact ih5 _ _ _ _ _ _ _ _ _
   | exact reticuleref08_text.mono _ _ _
   | exact LeO.none _
   | refine LeO.ite ?_ ?_
   | refine LeO.bind ?_ (fun _ => ?_)
  ·intro y0 y1 y2 y3 y4 y5 y6 y7 y8
   unfold reticuleref08_pretty.l0
   repeat' first
   | (with_reducible exact ih0 _ _ _)
   | (with_reducible exact ih1 _ _ _ _ _ _ _ _ _)
   | (with_reducible exact ih2 _ _ _ _ _ _ _ _ _ _)
   | (with_reducible exact ih3 _ _ _ _ _ _ _ _ _ _)
   | (with_reducible exact ih4 _ _ _ _ _ _ _ _ _ _ _)
   | (with_reducible exact ih5 _ _ _ _ _ _ _ _ _)
   | (with_reducible exact reticuleref08_text.mono _ _ _)
   | (with_reducible exact LeO.refl _)
   | (with_reducible exact LeO.none _)
   | (with_reducible refine LeO.ite ?_ ?_)
   | (with_reducible refine LeO.bind ?_ (fun _ => ?_))
   | exact ih0 _ _ _
   | exact ih1 _ _ _ _ _ _ _ _ _
   | exact ih2 _ _ _ _ _ _ _ _ _ _
   | exact ih3 _ _ _ _ _ _ _ _ _ _
   | exact ih4 _ _ _ _ _ _ _ _ _ _ _
   | exact ih5 _ _ _ _ _ _ _ _ _
   | exact reticuleref08_text.mono _ _ _
   | exact LeO.none _
   | refine LeO.ite ?_ ?_
   | refine LeO.bind ?_ (fun _ => ?_)
theorem reticuleref08_pretty.mono : ∀ a0 a1 a2 k, LeO (reticuleref08_pretty.f k a0 a1 a2) (reticuleref08_pretty.f (k + 1) a0 a1 a2) := by
 intro a0 a1 a2 k
 obtain ⟨ih0, ih1, ih2, ih3, ih4, ih5⟩ := reticuleref08_pretty.mono_l k
 exact ih0 a0 a1 a2
set_option maxHeartbeats 8000000 in
set_option maxRecDepth 100000 in
theorem reticuleref08_pretty.calls (k : Nat) : ∀ (A0 : Option Addr) (c0 : Nat) (l0 : List (S61)) (a1 : Int) (a2 : Int) (r : ByteArray) (w : World) (HT : Aside0 (Go.Proofs.YtldjbgonlbmeaaaDoor.Dig.Tab w)) (hr0 : Kd.C k61 w A0 l0.length l0) (hc0 : l0.length ≤ c0) (h : reticuleref08_pretty.f k l0 a1 a2 = some r),
  Calls Tryd.prog 28 #[.slice A0 l0.length c0, .int .i64 a1, .int .i64 a2] w fun e w' => e = .returned (.string r) ∧ Below w.heap.size w w' := by
 induction k using Nat.strongRecOn with
 | _ k ih =>
 intro A0 c0 l0 a1 a2 r w HT hr0 hc0 h
 cases k with
 | zero => exact absurd h (by simp [reticuleref08_pretty.f])
 | succ k =>
 simp only [reticuleref08_pretty.f] at h
 have hu61 := Tryd.underlying61
 have HR0 := Aside0.mk hr0
 have HC0 := Aside0.mk hc0
 clear hr0 hc0
 have HB := Aside0.mk (Below.refl w.heap.size w)
 have H : (if 0 ≤ a1 then (if a1 < (l0.length : Int) then (reticuleref08_pretty.l0 k l0 a1 a2 0 ((rd_T61 l0 a1).f0) ((rd_T61 l0 a1).f1) ((rd_T61 l0 a1).f2) ((rd_T61 l0 a1).f3) ((rd_T61 l0 a1).f4)) else (none)) else (none)) = some r := h
 clear h
 by_cases c4 : 0 ≤ a1
 ·rw [if_pos c4] at H
  have c4b0 : decide (0 ≤ a1) = true := decide_eq_true c4
  clear c4
  by_cases c5 : a1 < (l0.length : Int)
  ·rw [if_pos c5] at H
   have c5b0 : decide (a1 < (l0.length : Int)) = true := decide_eq_true c5
   clear c5
   have HC6 := Aside0.mk H
   clear H
   have p132 : 0 ≤ (a1 : Int) := of_decide_eq_true (by first | (with_reducible assumption) | assumption)
   have q132 : a1 < (l0.length : Int) := of_decide_eq_true (by first | (with_reducible assumption) | assumption)
   obtain ⟨ad132, A132_3, c132_3, e132, hx132_0, hx132_1, hx132_2, hx132_3, hx132_4, hl132_3, hi132_3⟩ := at_T61 HR0.out a1 p132 q132
   cases e132
   have HR132_3 := Aside0.mk hi132_3
   have HC132_3 := Aside0.mk hl132_3
   clear hi132_3 hl132_3
   replace p132 := eq_true p132
   replace q132 := eq_true q132
   go_enter Tryd.func28, Tryd.ntmps28
   go_upto_block 0 with (first | ((with_reducible refine gate_dst (N := 7) rfl ?_); (try (refine gate_guard (by rfl) ?_; dsimp only)); refine box_event ?hg (N := 7) ?hd (cs := #[.int .u8 0, .string (⟨#[]⟩ : ByteArray), .int .i64 0, .slice none 0 0, .int .i64 0]) (t := 61) ?hr ?_; (case hd => rfl); (case hg => rfl); (case hr => first | (go_simp; done) | (go_simp; rfl)); intro gb133 hg w7 hbox hb; have n0_ := Aside0.mk (below_step (by repeat (first | (with_reducible first | exact HB.out | apply below_alloc | apply pw_below_drewN | apply below_drew1) | exact HB.out | exact Below.refl _ _)) hb); have n1_ := Aside0.mk (hbox); have n2_ := Aside0.mk ((by rw [hg]; exact (below_size (by repeat (first | (with_reducible first | exact HB.out | apply below_alloc | apply pw_below_drewN | apply below_drew1) | exact HB.out | exact Below.refl _ _))) : w.heap.size ≤ gb133)); have n3_ := Aside0.mk ((by rw [hg]; exact (below_size (by repeat (first | (with_reducible first | exact HB.out | apply below_alloc | apply pw_below_drewN | apply below_drew1) | exact HB.out | exact Below.refl _ _))) : w.heap.size ≤ gb133)); clear HB; have HB := n0_; have BK133 := n1_; have GW133 := n2_; have GE133 := n3_; clear n0_ n1_ n2_ n3_; clear hb hbox hg; have hcz8_0 : w7.cell? ⟨gb133, 0, none⟩ = some (.int .u8 0) := (blk_cell BK133.out 0).trans rfl; have hcz8_1 : w7.cell? ⟨gb133, 1, none⟩ = some (.string (⟨#[]⟩ : ByteArray)) := (blk_cell BK133.out 1).trans rfl; have hcz8_2 : w7.cell? ⟨gb133, 2, none⟩ = some (.int .i64 0) := (blk_cell BK133.out 2).trans rfl; have hcz8_3 : w7.cell? ⟨gb133, 3, none⟩ = some (.slice none 0 0) := (blk_cell BK133.out 3).trans rfl; have hcz8_4 : w7.cell? ⟨gb133, 4, none⟩ = some (.int .i64 0) := (blk_cell BK133.out 4).trans rfl; have hfz8_0 := blk_frozen BK133.out 0; have hfz8_1 := blk_frozen BK133.out 1; have hfz8_2 := blk_frozen BK133.out 2; have hfz8_3 := blk_frozen BK133.out 3; have hfz8_4 := blk_frozen BK133.out 4))
   (try simp only [Act.put, List.setIfInBounds_toArray, List.set_cons_zero, List.set_cons_succ])
   go_cut [8] (fun v8 wc => ∃ (kq : Nat) (x8_5 : Int), v8 = .int .i64 x8_5 ∧ Aside0 (reticuleref08_pretty.j1 kq l0 a1 a2 x8_5 ((rd_T61 l0 a1).f0) ((rd_T61 l0 a1).f1) ((rd_T61 l0 a1).f2) ((rd_T61 l0 a1).f3) ((rd_T61 l0 a1).f4) = some r) ∧ Aside0 (kq ≤ k) ∧ Aside0 (wc.heap[gb133]? = some (.cells #[.int .u8 ((rd_T61 l0 a1).f0), .string ((rd_T61 l0 a1).f1), .int .i64 ((rd_T61 l0 a1).f2), (.slice A132_3 ((rd_T61 l0 a1).f3).length c132_3), .int .i64 ((rd_T61 l0 a1).f4)] 61 (0, 0))) ∧ Aside0 (Below w.heap.size w wc))
   case first =>
    have H := HC6.out
    clear HC6
    have H' := Aside0.mk H
    clear H
    go_wp2
    go_loopg [8] k (fun kq v8 w' => ∃ (x8_1 : Int), v8 = .int .i64 x8_1 ∧ Aside0 (reticuleref08_pretty.l0 kq l0 a1 a2 x8_1 ((rd_T61 l0 a1).f0) ((rd_T61 l0 a1).f1) ((rd_T61 l0 a1).f2) ((rd_T61 l0 a1).f3) ((rd_T61 l0 a1).f4) = some r) ∧ Aside0 (kq ≤ k) ∧ Aside0 (w'.heap[gb133]? = some (.cells #[.int .u8 ((rd_T61 l0 a1).f0), .string ((rd_T61 l0 a1).f1), .int .i64 ((rd_T61 l0 a1).f2), (.slice A132_3 ((rd_T61 l0 a1).f3).length c132_3), .int .i64 ((rd_T61 l0 a1).f4)] 61 (0, 0))) ∧ Aside0 (Below w.heap.size w w'))
    case atStart => exact ⟨(0), (by first | rfl | (simp; done) | (simp [*]; done)), H', ⟨Nat.le_refl _⟩, ⟨by (with_reducible repeat (first | refine blk_drewN ?_ _ | refine blk_drew ?_ | refine blk_alloc ?_ _)); refine blk_put (cs := #[.int .u8 ((rd_T61 l0 a1).f0), .string ((rd_T61 l0 a1).f1), .int .i64 ((rd_T61 l0 a1).f2), .slice A132_3 ((rd_T61 l0 a1).f3).length c132_3, .int .i64 0]) ?_ 4 _ rfl; (with_reducible repeat (first | refine blk_drewN ?_ _ | refine blk_drew ?_ | refine blk_alloc ?_ _)); refine blk_put (cs := #[.int .u8 ((rd_T61 l0 a1).f0), .string ((rd_T61 l0 a1).f1), .int .i64 ((rd_T61 l0 a1).f2), .slice none 0 0, .int .i64 0]) ?_ 3 _ rfl; (with_reducible repeat (first | refine blk_drewN ?_ _ | refine blk_drew ?_ | refine blk_alloc ?_ _)); refine blk_put (cs := #[.int .u8 ((rd_T61 l0 a1).f0), .string ((rd_T61 l0 a1).f1), .int .i64 0, .slice none 0 0, .int .i64 0]) ?_ 2 _ rfl; (with_reducible repeat (first | refine blk_drewN ?_ _ | refine blk_drew ?_ | refine blk_alloc ?_ _)); refine blk_put (cs := #[.int .u8 ((rd_T61 l0 a1).f0), .string (⟨#[]⟩ : ByteArray), .int .i64 0, .slice none 0 0, .int .i64 0]) ?_ 1 _ rfl; (with_reducible repeat (first | refine blk_drewN ?_ _ | refine blk_drew ?_ | refine blk_alloc ?_ _)); refine blk_put (cs := #[.int .u8 0, .string (⟨#[]⟩ : ByteArray), .int .i64 0, .slice none 0 0, .int .i64 0]) ?_ 0 _ rfl; (with_reducible repeat (first | refine blk_drewN ?_ _ | refine blk_drew ?_ | refine blk_alloc ?_ _)); exact BK133.out⟩, ⟨by repeat (first | (with_reducible first | exact HB.out | apply below_alloc | apply pw_below_drewN | apply below_drew1 | refine below_set ?_ GE133.out) | exact HB.out)⟩⟩
    case round =>
     clear H'
     try clear c1
     try clear p1
     try clear q1
     try clear hx1
     try clear c2
     try clear p2
     try clear c4
     try clear c4b0
     try clear c5
     try clear c5b0
     try clear hcz8_0
     try clear hcz8_1
     try clear hcz8_2
     try clear hcz8_3
     try clear hcz8_4
     try clear hfz8_0
     try clear hfz8_1
     try clear hfz8_2
     try clear hfz8_3
     try clear hfz8_4
     try clear hx132_0
     try clear hx132_1
     try clear hx132_2
     try clear hx132_3
     try clear hx132_4
     try clear p132
     try clear q132
     obtain ⟨x8_1, rfl, HA, HK1, BK133, HB⟩ := hrel
     cases gk with
     | zero => exact absurd HA.out (by simp [reticuleref08_pretty.l0])
     | succ k1 =>
      have H := HA.out
      clear HA
      simp only [reticuleref08_pretty.l0] at H
      by_cases c9 : x8_1 < (((rd_T61 l0 a1).f3).length : Int)
      ·rw [if_pos c9] at H
       have c9b0 : decide (x8_1 < (((rd_T61 l0 a1).f3).length : Int)) = true := decide_eq_true c9
       clear c9
       (first | rw [c9b0] | (simp only [i64_w, i32_w]; rw [c9b0]) | skip)
       by_cases c10 : 0 ≤ x8_1
       ·rw [if_pos c10] at H
        have c10b0 : decide (0 ≤ x8_1) = true := decide_eq_true c10
        clear c10
        by_cases c11 : 0 ≤ (rd ((rd_T61 l0 a1).f3) x8_1)
        ·rw [if_pos c11] at H
         have c11b0 : decide (0 ≤ (rd ((rd_T61 l0 a1).f3) x8_1)) = true := decide_eq_true c11
         clear c11
         by_cases c12 : (rd ((rd_T61 l0 a1).f3) x8_1) < (l0.length : Int)
         ·rw [if_pos c12] at H
          have c12b0 : decide ((rd ((rd_T61 l0 a1).f3) x8_1) < (l0.length : Int)) = true := decide_eq_true c12
          clear c12
          by_cases c13 : ((rd_T61 l0 (rd ((rd_T61 l0 a1).f3) x8_1)).f0) = 1
          ·rw [if_pos c13] at H
           have c13b0 : (((rd_T61 l0 (rd ((rd_T61 l0 a1).f3) x8_1)).f0) == 1) = true := beq_iff_eq.mpr c13
           have c13b1 : (((rd_T61 l0 (rd ((rd_T61 l0 a1).f3) x8_1)).f0) != 1) = false := bne_eq_false_iff_eq.mpr c13
           clear c13
           have H' := Aside0.mk H
           clear H
           have hcz14_0 : wr.cell? ⟨gb133, 0, none⟩ = some (.int .u8 ((rd_T61 l0 a1).f0)) := (blk_cell BK133.out 0).trans rfl
           have hcz14_1 : wr.cell? ⟨gb133, 1, none⟩ = some (.string ((rd_T61 l0 a1).f1)) := (blk_cell BK133.out 1).trans rfl
           have hcz14_2 : wr.cell? ⟨gb133, 2, none⟩ = some (.int .i64 ((rd_T61 l0 a1).f2)) := (blk_cell BK133.out 2).trans rfl
           have hcz14_3 : wr.cell? ⟨gb133, 3, none⟩ = some (.slice A132_3 ((rd_T61 l0 a1).f3).length c132_3) := (blk_cell BK133.out 3).trans rfl
           have hcz14_4 : wr.cell? ⟨gb133, 4, none⟩ = some (.int .i64 ((rd_T61 l0 a1).f4)) := (blk_cell BK133.out 4).trans rfl
           have hfz14_0 := blk_frozen BK133.out 0
           have hfz14_1 := blk_frozen BK133.out 1
           have hfz14_2 := blk_frozen BK133.out 2
           have hfz14_3 := blk_frozen BK133.out 3
           have hfz14_4 := blk_frozen BK133.out 4
           have p134 : 0 ≤ (x8_1 : Int) := of_decide_eq_true (by first | (with_reducible assumption) | assumption)
           have q134 : x8_1 < (((rd_T61 l0 a1).f3).length : Int) := of_decide_eq_true (by first | (with_reducible assumption) | assumption)
           obtain ⟨ad134, e134, hx134_0⟩ := Kd.at_int HR132_3.out x8_1 p134 q134
           cases e134
           replace hx134_0 := (HB.out.cell (World.block_lt_of_cell? w _ hx134_0)).trans hx134_0
           replace p134 := eq_true p134
           replace q134 := eq_true q134
           have p135 : 0 ≤ ((rd ((rd_T61 l0 a1).f3) x8_1) : Int) := of_decide_eq_true (by first | (with_reducible assumption) | assumption)
           have q135 : (rd ((rd_T61 l0 a1).f3) x8_1) < (l0.length : Int) := of_decide_eq_true (by first | (with_reducible assumption) | assumption)
           obtain ⟨ad135, A135_3, c135_3, e135, hx135_0, hx135_1, hx135_2, hx135_3, hx135_4, hl135_3, hi135_3⟩ := at_T61 HR0.out (rd ((rd_T61 l0 a1).f3) x8_1) p135 q135
           obtain rfl : ad132 = ad135 := (by injection e135)
           replace hx135_0 := (HB.out.cell (World.block_lt_of_cell? w _ hx135_0)).trans hx135_0
           replace hx135_1 := (HB.out.cell (World.block_lt_of_cell? w _ hx135_1)).trans hx135_1
           replace hx135_2 := (HB.out.cell (World.block_lt_of_cell? w _ hx135_2)).trans hx135_2
           replace hx135_3 := (HB.out.cell (World.block_lt_of_cell? w _ hx135_3)).trans hx135_3
           replace hx135_4 := (HB.out.cell (World.block_lt_of_cell? w _ hx135_4)).trans hx135_4
           have HR135_3 := Aside0.mk hi135_3
           have HC135_3 := Aside0.mk hl135_3
           clear hi135_3 hl135_3
           replace p135 := eq_true p135
           replace q135 := eq_true q135
           go_wp2
           go_meet
           case rel => exact ⟨_, (x8_1), (by first | rfl | (simp; done) | (simp [*]; done)), H', ⟨by have := HK1.out; first | omega | exact Nat.le_refl _⟩, ⟨by (with_reducible repeat (first | refine blk_drewN ?_ _ | refine blk_drew ?_ | refine blk_alloc ?_ _)); exact BK133.out⟩, ⟨by repeat (first | (with_reducible first | exact HB.out | apply below_alloc | apply pw_below_drewN | apply below_drew1 | refine below_set ?_ GE133.out) | exact HB.out)⟩⟩
          ·rw [if_neg c13] at H
           have c13b0 : (((rd_T61 l0 (rd ((rd_T61 l0 a1).f3) x8_1)).f0) == 1) = false := beq_eq_false_iff_ne.mpr c13
           have c13b1 : (((rd_T61 l0 (rd ((rd_T61 l0 a1).f3) x8_1)).f0) != 1) = true := bne_iff_ne.mpr c13
           have H' := Aside0.mk H
           clear H
           have hcz15_0 : wr.cell? ⟨gb133, 0, none⟩ = some (.int .u8 ((rd_T61 l0 a1).f0)) := (blk_cell BK133.out 0).trans rfl
           have hcz15_1 : wr.cell? ⟨gb133, 1, none⟩ = some (.string ((rd_T61 l0 a1).f1)) := (blk_cell BK133.out 1).trans rfl
           have hcz15_2 : wr.cell? ⟨gb133, 2, none⟩ = some (.int .i64 ((rd_T61 l0 a1).f2)) := (blk_cell BK133.out 2).trans rfl
           have hcz15_3 : wr.cell? ⟨gb133, 3, none⟩ = some (.slice A132_3 ((rd_T61 l0 a1).f3).length c132_3) := (blk_cell BK133.out 3).trans rfl
           have hcz15_4 : wr.cell? ⟨gb133, 4, none⟩ = some (.int .i64 ((rd_T61 l0 a1).f4)) := (blk_cell BK133.out 4).trans rfl
           have hfz15_0 := blk_frozen BK133.out 0
           have hfz15_1 := blk_frozen BK133.out 1
           have hfz15_2 := blk_frozen BK133.out 2
           have hfz15_3 := blk_frozen BK133.out 3
           have hfz15_4 := blk_frozen BK133.out 4
           have p134 : 0 ≤ (x8_1 : Int) := of_decide_eq_true (by first | (with_reducible assumption) | assumption)
           have q134 : x8_1 < (((rd_T61 l0 a1).f3).length : Int) := of_decide_eq_true (by first | (with_reducible assumption) | assumption)
           obtain ⟨ad134, e134, hx134_0⟩ := Kd.at_int HR132_3.out x8_1 p134 q134
           cases e134
           replace hx134_0 := (HB.out.cell (World.block_lt_of_cell? w _ hx134_0)).trans hx134_0
           replace p134 := eq_true p134
           replace q134 := eq_true q134
           have p135 : 0 ≤ ((rd ((rd_T61 l0 a1).f3) x8_1) : Int) := of_decide_eq_true (by first | (with_reducible assumption) | assumption)
           have q135 : (rd ((rd_T61 l0 a1).f3) x8_1) < (l0.length : Int) := of_decide_eq_true (by first | (with_reducible assumption) | assumption)
           obtain ⟨ad135, A135_3, c135_3, e135, hx135_0, hx135_1, hx135_2, hx135_3, hx135_4, hl135_3, hi135_3⟩ := at_T61 HR0.out (rd ((rd_T61 l0 a1).f3) x8_1) p135 q135
           obtain rfl : ad132 = ad135 := (by injection e135)
           replace hx135_0 := (HB.out.cell (World.block_lt_of_cell? w _ hx135_0)).trans hx135_0
           replace hx135_1 := (HB.out.cell (World.block_lt_of_cell? w _ hx135_1)).trans hx135_1
           replace hx135_2 := (HB.out.cell (World.block_lt_of_cell? w _ hx135_2)).trans hx135_2
           replace hx135_3 := (HB.out.cell (World.block_lt_of_cell? w _ hx135_3)).trans hx135_3
           replace hx135_4 := (HB.out.cell (World.block_lt_of_cell? w _ hx135_4)).trans hx135_4
           have HR135_3 := Aside0.mk hi135_3
           have HC135_3 := Aside0.mk hl135_3
           clear hi135_3 hl135_3
           replace p135 := eq_true p135
           replace q135 := eq_true q135
           go_wp2
           go_roundg k1
           case measure => have := HK1.out; omega
           case rel => exact ⟨(wrap64 (x8_1 + 1)), (by first | rfl | (simp; done) | (simp [*]; done)), H', ⟨by have := HK1.out; omega⟩, ⟨by (with_reducible repeat (first | refine blk_drewN ?_ _ | refine blk_drew ?_ | refine blk_alloc ?_ _)); exact BK133.out⟩, ⟨by repeat (first | (with_reducible first | exact HB.out | apply below_alloc | apply pw_below_drewN | apply below_drew1 | refine below_set ?_ GE133.out) | exact HB.out)⟩⟩
         ·rw [if_neg c12] at H
          exact absurd H (by simp)
        ·rw [if_neg c11] at H
         exact absurd H (by simp)
       ·rw [if_neg c10] at H
        exact absurd H (by simp)
      ·rw [if_neg c9] at H
       have c9b0 : decide (x8_1 < (((rd_T61 l0 a1).f3).length : Int)) = false := decide_eq_false c9
       clear c9
       (first | rw [c9b0] | (simp only [i64_w, i32_w]; rw [c9b0]) | skip)
       have H' := Aside0.mk H
       clear H
       have hcz16_0 : wr.cell? ⟨gb133, 0, none⟩ = some (.int .u8 ((rd_T61 l0 a1).f0)) := (blk_cell BK133.out 0).trans rfl
       have hcz16_1 : wr.cell? ⟨gb133, 1, none⟩ = some (.string ((rd_T61 l0 a1).f1)) := (blk_cell BK133.out 1).trans rfl
       have hcz16_2 : wr.cell? ⟨gb133, 2, none⟩ = some (.int .i64 ((rd_T61 l0 a1).f2)) := (blk_cell BK133.out 2).trans rfl
       have hcz16_3 : wr.cell? ⟨gb133, 3, none⟩ = some (.slice A132_3 ((rd_T61 l0 a1).f3).length c132_3) := (blk_cell BK133.out 3).trans rfl
       have hcz16_4 : wr.cell? ⟨gb133, 4, none⟩ = some (.int .i64 ((rd_T61 l0 a1).f4)) := (blk_cell BK133.out 4).trans rfl
       have hfz16_0 := blk_frozen BK133.out 0
       have hfz16_1 := blk_frozen BK133.out 1
       have hfz16_2 := blk_frozen BK133.out 2
       have hfz16_3 := blk_frozen BK133.out 3
       have hfz16_4 := blk_frozen BK133.out 4
       go_wp2
       go_meet
       case rel => exact ⟨_, (x8_1), (by first | rfl | (simp; done) | (simp [*]; done)), H', ⟨by have := HK1.out; first | omega | exact Nat.le_refl _⟩, ⟨by (with_reducible repeat (first | refine blk_drewN ?_ _ | refine blk_drew ?_ | refine blk_alloc ?_ _)); exact BK133.out⟩, ⟨by repeat (first | (with_reducible first | exact HB.out | apply below_alloc | apply pw_below_drewN | apply below_drew1 | refine below_set ?_ GE133.out) | exact HB.out)⟩⟩
   case rest =>
    clear HC6
    try clear c1
    try clear p1
    try clear q1
    try clear hx1
    try clear c2
    try clear p2
    try clear c4
    try clear c4b0
    try clear c5
    try clear c5b0
    try clear p6
    try clear c9
    try clear c9b0
    try clear c10
    try clear c10b0
    try clear c11
    try clear c11b0
    try clear c12
    try clear c12b0
    try clear c13
    try clear c13b0
    try clear c13b1
    try clear p13
    try clear q13
    try clear hx13
    try clear hcz14_0
    try clear hcz14_1
    try clear hcz14_2
    try clear hcz14_3
    try clear hcz14_4
    try clear hcz15_0
    try clear hcz15_1
    try clear hcz15_2
    try clear hcz15_3
    try clear hcz15_4
    try clear hcz16_0
    try clear hcz16_1
    try clear hcz16_2
    try clear hcz16_3
    try clear hcz16_4
    try clear hcz8_0
    try clear hcz8_1
    try clear hcz8_2
    try clear hcz8_3
    try clear hcz8_4
    try clear hfz14_0
    try clear hfz14_1
    try clear hfz14_2
    try clear hfz14_3
    try clear hfz14_4
    try clear hfz15_0
    try clear hfz15_1
    try clear hfz15_2
    try clear hfz15_3
    try clear hfz15_4
    try clear hfz16_0
    try clear hfz16_1
    try clear hfz16_2
    try clear hfz16_3
    try clear hfz16_4
    try clear hfz8_0
    try clear hfz8_1
    try clear hfz8_2
    try clear hfz8_3
    try clear hfz8_4
    try clear hx132_0
    try clear hx132_1
    try clear hx132_2
    try clear hx132_3
    try clear hx132_4
    try clear hx134_0
    try clear hx135_0
    try clear hx135_1
    try clear hx135_2
    try clear hx135_3
    try clear hx135_4
    try clear p1
    try clear p132
    try clear p134
    try clear p135
    try clear p2
    try clear q1
    try clear q132
    try clear q134
    try clear q135
    obtain ⟨kq, x8_5, rfl, HA, HJ5, BK133, HB⟩ := hcut
    cases kq with
    | zero => exact absurd HA.out (by simp [reticuleref08_pretty.j1])
    | succ kj5 =>
     have H := HA.out
     clear HA
     simp only [reticuleref08_pretty.j1] at H
     have HC17 := Aside0.mk H
     clear H
     go_upto_region 5 with (fail)
     go_cut [44] (fun v44 wc => ∃ (kq : Nat) (x44_16 : Bool), v44 = .bool x44_16 ∧ Aside0 (reticuleref08_pretty.j2 kq l0 a1 a2 x8_5 x44_16 ((rd_T61 l0 a1).f0) ((rd_T61 l0 a1).f1) ((rd_T61 l0 a1).f2) ((rd_T61 l0 a1).f3) ((rd_T61 l0 a1).f4) = some r) ∧ Aside0 (kq ≤ kj5) ∧ Aside0 (wc.heap[gb133]? = some (.cells #[.int .u8 ((rd_T61 l0 a1).f0), .string ((rd_T61 l0 a1).f1), .int .i64 ((rd_T61 l0 a1).f2), (.slice A132_3 ((rd_T61 l0 a1).f3).length c132_3), .int .i64 ((rd_T61 l0 a1).f4)] 61 (0, 0))) ∧ Aside0 (Below w.heap.size w wc))
     case first =>
      have H := HC17.out
      clear HC17
      by_cases c18 : ((rd_T61 l0 a1).f0) = 1
      ·rw [if_pos c18] at H
       have c18b0 : (((rd_T61 l0 a1).f0) == 1) = true := beq_iff_eq.mpr c18
       have c18b1 : (((rd_T61 l0 a1).f0) != 1) = false := bne_eq_false_iff_eq.mpr c18
       clear c18
       (first | rw [c18b0] | (simp only [i64_w, i32_w]; rw [c18b0]) | skip)
       have H' := Aside0.mk H
       clear H
       have hcz19_0 : wc.cell? ⟨gb133, 0, none⟩ = some (.int .u8 ((rd_T61 l0 a1).f0)) := (blk_cell BK133.out 0).trans rfl
       have hcz19_1 : wc.cell? ⟨gb133, 1, none⟩ = some (.string ((rd_T61 l0 a1).f1)) := (blk_cell BK133.out 1).trans rfl
       have hcz19_2 : wc.cell? ⟨gb133, 2, none⟩ = some (.int .i64 ((rd_T61 l0 a1).f2)) := (blk_cell BK133.out 2).trans rfl
       have hcz19_3 : wc.cell? ⟨gb133, 3, none⟩ = some (.slice A132_3 ((rd_T61 l0 a1).f3).length c132_3) := (blk_cell BK133.out 3).trans rfl
       have hcz19_4 : wc.cell? ⟨gb133, 4, none⟩ = some (.int .i64 ((rd_T61 l0 a1).f4)) := (blk_cell BK133.out 4).trans rfl
       have hfz19_0 := blk_frozen BK133.out 0
       have hfz19_1 := blk_frozen BK133.out 1
       have hfz19_2 := blk_frozen BK133.out 2
       have hfz19_3 := blk_frozen BK133.out 3
       have hfz19_4 := blk_frozen BK133.out 4
       go_wp2
       go_meet
       case rel => exact ⟨_, ((x8_5 == (((rd_T61 l0 a1).f3).length : Int))), (by first | rfl | (simp; done) | (simp [*]; done)), H', ⟨by have := HJ5.out; first | omega | exact Nat.le_refl _⟩, ⟨by (with_reducible repeat (first | refine blk_drewN ?_ _ | refine blk_drew ?_ | refine blk_alloc ?_ _)); exact BK133.out⟩, ⟨by repeat (first | (with_reducible first | exact HB.out | apply below_alloc | apply pw_below_drewN | apply below_drew1 | refine below_set ?_ GE133.out) | exact HB.out)⟩⟩
      ·rw [if_neg c18] at H
       have c18b0 : (((rd_T61 l0 a1).f0) == 1) = false := beq_eq_false_iff_ne.mpr c18
       have c18b1 : (((rd_T61 l0 a1).f0) != 1) = true := bne_iff_ne.mpr c18
       (first | rw [c18b0] | (simp only [i64_w, i32_w]; rw [c18b0]) | skip)
       have H' := Aside0.mk H
       clear H
       have hcz20_0 : wc.cell? ⟨gb133, 0, none⟩ = some (.int .u8 ((rd_T61 l0 a1).f0)) := (blk_cell BK133.out 0).trans rfl
       have hcz20_1 : wc.cell? ⟨gb133, 1, none⟩ = some (.string ((rd_T61 l0 a1).f1)) := (blk_cell BK133.out 1).trans rfl
       have hcz20_2 : wc.cell? ⟨gb133, 2, none⟩ = some (.int .i64 ((rd_T61 l0 a1).f2)) := (blk_cell BK133.out 2).trans rfl
       have hcz20_3 : wc.cell? ⟨gb133, 3, none⟩ = some (.slice A132_3 ((rd_T61 l0 a1).f3).length c132_3) := (blk_cell BK133.out 3).trans rfl
       have hcz20_4 : wc.cell? ⟨gb133, 4, none⟩ = some (.int .i64 ((rd_T61 l0 a1).f4)) := (blk_cell BK133.out 4).trans rfl
       have hfz20_0 := blk_frozen BK133.out 0
       have hfz20_1 := blk_frozen BK133.out 1
       have hfz20_2 := blk_frozen BK133.out 2
       have hfz20_3 := blk_frozen BK133.out 3
       have hfz20_4 := blk_frozen BK133.out 4
       go_wp2
       go_meet
       case rel => exact ⟨_, (true), (by first | rfl | (simp; done) | (simp [*]; done)), H', ⟨by have := HJ5.out; first | omega | exact Nat.le_refl _⟩, ⟨by (with_reducible repeat (first | refine blk_drewN ?_ _ | refine blk_drew ?_ | refine blk_alloc ?_ _)); exact BK133.out⟩, ⟨by repeat (first | (with_reducible first | exact HB.out | apply below_alloc | apply pw_below_drewN | apply below_drew1 | refine below_set ?_ GE133.out) | exact HB.out)⟩⟩
     case rest =>
      clear HC17
      try clear c1
      try clear p1
      try clear q1
      try clear hx1
      try clear c2
      try clear p2
      try clear c4
      try clear c4b0
      try clear c5
      try clear c5b0
      try clear p6
      try clear c9
      try clear c9b0
      try clear c10
      try clear c10b0
      try clear c11
      try clear c11b0
      try clear c12
      try clear c12b0
      try clear c13
      try clear c13b0
      try clear c13b1
      try clear p13
      try clear q13
      try clear hx13
      try clear c18
      try clear c18b0
      try clear c18b1
      try clear hcz14_0
      try clear hcz14_1
      try clear hcz14_2
      try clear hcz14_3
      try clear hcz14_4
      try clear hcz15_0
      try clear hcz15_1
      try clear hcz15_2
      try clear hcz15_3
      try clear hcz15_4
      try clear hcz16_0
      try clear hcz16_1
      try clear hcz16_2
      try clear hcz16_3
      try clear hcz16_4
      try clear hcz19_0
      try clear hcz19_1
      try clear hcz19_2
      try clear hcz19_3
      try clear hcz19_4
      try clear hcz20_0
      try clear hcz20_1
      try clear hcz20_2
      try clear hcz20_3
      try clear hcz20_4
      try clear hcz8_0
      try clear hcz8_1
      try clear hcz8_2
      try clear hcz8_3
      try clear hcz8_4
      try clear hfz14_0
      try clear hfz14_1
      try clear hfz14_2
      try clear hfz14_3
      try clear hfz14_4
      try clear hfz15_0
      try clear hfz15_1
      try clear hfz15_2
      try clear hfz15_3
      try clear hfz15_4
      try clear hfz16_0
      try clear hfz16_1
      try clear hfz16_2
      try clear hfz16_3
      try clear hfz16_4
      try clear hfz19_0
      try clear hfz19_1
      try clear hfz19_2
      try clear hfz19_3
      try clear hfz19_4
      try clear hfz20_0
      try clear hfz20_1
      try clear hfz20_2
      try clear hfz20_3
      try clear hfz20_4
      try clear hfz8_0
      try clear hfz8_1
      try clear hfz8_2
      try clear hfz8_3
      try clear hfz8_4
      try clear hx132_0
      try clear hx132_1
      try clear hx132_2
      try clear hx132_3
      try clear hx132_4
      try clear hx134_0
      try clear hx135_0
      try clear hx135_1
      try clear hx135_2
      try clear hx135_3
      try clear hx135_4
      try clear p1
      try clear p13
      try clear p132
      try clear p134
      try clear p135
      try clear p2
      try clear p6
      try clear q1
      try clear q13
      try clear q132
      try clear q134
      try clear q135
      obtain ⟨kq, x44_16, rfl, HA, HJ16, BK133, HB⟩ := hcut
      cases kq with
      | zero => exact absurd HA.out (by simp [reticuleref08_pretty.j2])
      | succ kj16 =>
       have H := HA.out
       clear HA
       simp only [reticuleref08_pretty.j2] at H
       by_cases c21 : x44_16 = true
       ·subst c21
        have H1 : ((reticuleref08_text.f kj16 l0 a1).bind fun t136 => (some t136)) = some r := by rw [if_pos rfl] at H; exact H
        clear H
        have H := H1
        clear H1
        replace H := Option.bind_eq_some_iff.mp H
        obtain ⟨t136, A220, H⟩ := H
        replace H : (some t136) = some r := H
        have A22 := Aside0.mk A220
        clear A220
        obtain rfl := Option.some.inj H
        go_wp2_with (first | ((with_reducible refine gate_callee (f := 23) rfl ?_); refine goesL_ (some 47) rfl rfl Tryd.func23 (by kernel_rfl) rfl #[.slice (some ad132) l0.length c0, .int .i64 a1] rfl (by (try simp only [List.map_toArray, List.map_cons, List.map_nil]); first | done | rfl | (simp only [List.length_drop, List.length_take]; rfl)) ?_; (with_reducible refine (reticuleref08_text.calls kj16 _ _ l0 a1 t136 _ ?sideT ?side1 ?side2 A22.out).mono ?_); (case sideT => exact Go.Proofs.YtldjbgonlbmeaaaDoor.Dig.Tab.bel HT (by repeat (first | (with_reducible first | exact HB.out | apply below_alloc | apply pw_below_drewN | apply below_drew1 | apply below_drew) | exact HB.out | exact Below.refl _ _ | refine below_set ?_ GE133.out))); (case side1 => repeat (first | exact (Kd.C_below HR0.out HB.out) | (with_reducible refine Kd.C_alloc ?_ _) | (with_reducible refine Kd.C_drewN ?_ _) | (with_reducible refine Kd.C_drew ?_))); (case side2 => exact HC0.out); rintro e w23 ⟨rfl, hb⟩; refine ⟨_, rfl, ?_⟩; have n0_ := Aside0.mk (blk_below (g := gb133) (o := .cells #[.int .u8 ((rd_T61 l0 a1).f0), .string ((rd_T61 l0 a1).f1), .int .i64 ((rd_T61 l0 a1).f2), .slice A132_3 ((rd_T61 l0 a1).f3).length c132_3, .int .i64 ((rd_T61 l0 a1).f4)] 61 (0, 0)) (by (with_reducible repeat (first | refine blk_drewN ?_ _ | refine blk_drew ?_ | refine blk_alloc ?_ _)); exact BK133.out) hb); have n1_ := Aside0.mk (below_step (by repeat (first | (with_reducible first | exact HB.out | apply below_alloc | apply pw_below_drewN | apply below_drew1 | refine below_set ?_ GE133.out) | exact HB.out)) hb); clear BK133; clear HB; have BK133 := n0_; have HB := n1_; clear n0_ n1_; (try clear hb); (try clear hb2); (try clear hk); (try clear hi)))
        go_ret
        exact ⟨by first | rfl | (simp [errW_none, errW_some] <;> rfl) | (simp [*, errW_none, errW_some] <;> rfl), by repeat (first | (with_reducible first | exact HB.out | apply below_alloc | apply pw_below_drewN | apply below_drew1 | refine below_set ?_ GE133.out) | exact HB.out)⟩
       ·replace c21 := Bool.eq_false_iff.mpr c21
        subst c21
        have H1 : (reticuleref08_pretty.l1 kj16 l0 a2 x8_5 (⟨#[40]⟩ : ByteArray) 0 ((rd_T61 l0 a1).f0) ((rd_T61 l0 a1).f1) ((rd_T61 l0 a1).f2) ((rd_T61 l0 a1).f3) ((rd_T61 l0 a1).f4)) = some r := by rw [if_neg (show ¬ (false = true) by decide)] at H; exact H
        clear H
        have H := H1
        clear H1
        have H' := Aside0.mk H
        clear H
        go_wp2
        go_loopg [9, 10] kj16 (fun kq v9 v10 w' => ∃ (x9_3 : ByteArray) (x10_3 : Int), v9 = .string x9_3 ∧ v10 = .int .i64 x10_3 ∧ Aside0 (reticuleref08_pretty.l1 kq l0 a2 x8_5 x9_3 x10_3 ((rd_T61 l0 a1).f0) ((rd_T61 l0 a1).f1) ((rd_T61 l0 a1).f2) ((rd_T61 l0 a1).f3) ((rd_T61 l0 a1).f4) = some r) ∧ Aside0 (kq ≤ kj16) ∧ Aside0 (w'.heap[gb133]? = some (.cells #[.int .u8 ((rd_T61 l0 a1).f0), .string ((rd_T61 l0 a1).f1), .int .i64 ((rd_T61 l0 a1).f2), (.slice A132_3 ((rd_T61 l0 a1).f3).length c132_3), .int .i64 ((rd_T61 l0 a1).f4)] 61 (0, 0))) ∧ Aside0 (Below w.heap.size w w'))
        case atStart => exact ⟨((⟨#[40]⟩ : ByteArray)), (0), (by first | rfl | (simp; done) | (simp [*]; done)), (by first | rfl | (simp; done) | (simp [*]; done)), H', ⟨Nat.le_refl _⟩, ⟨by (with_reducible repeat (first | refine blk_drewN ?_ _ | refine blk_drew ?_ | refine blk_alloc ?_ _)); exact BK133.out⟩, ⟨by repeat (first | (with_reducible first | exact HB.out | apply below_alloc | apply pw_below_drewN | apply below_drew1 | refine below_set ?_ GE133.out) | exact HB.out)⟩⟩
        case round =>
         clear H'
         try clear c1
         try clear p1
         try clear q1
         try clear hx1
         try clear c2
         try clear p2
         try clear c4
         try clear c4b0
         try clear c5
         try clear c5b0
         try clear p6
         try clear c9
         try clear c9b0
         try clear c10
         try clear c10b0
         try clear c11
         try clear c11b0
         try clear c12
         try clear c12b0
         try clear c13
         try clear c13b0
         try clear c13b1
         try clear p13
         try clear q13
         try clear hx13
         try clear c18
         try clear c18b0
         try clear c18b1
         try clear c21
         try clear c23
         try clear hcz14_0
         try clear hcz14_1
         try clear hcz14_2
         try clear hcz14_3
         try clear hcz14_4
         try clear hcz15_0
         try clear hcz15_1
         try clear hcz15_2
         try clear hcz15_3
         try clear hcz15_4
         try clear hcz16_0
         try clear hcz16_1
         try clear hcz16_2
         try clear hcz16_3
         try clear hcz16_4
         try clear hcz19_0
         try clear hcz19_1
         try clear hcz19_2
         try clear hcz19_3
         try clear hcz19_4
         try clear hcz20_0
         try clear hcz20_1
         try clear hcz20_2
         try clear hcz20_3
         try clear hcz20_4
         try clear hcz8_0
         try clear hcz8_1
         try clear hcz8_2
         try clear hcz8_3
         try clear hcz8_4
         try clear hfz14_0
         try clear hfz14_1
         try clear hfz14_2
         try clear hfz14_3
         try clear hfz14_4
         try clear hfz15_0
         try clear hfz15_1
         try clear hfz15_2
         try clear hfz15_3
         try clear hfz15_4
         try clear hfz16_0
         try clear hfz16_1
         try clear hfz16_2
         try clear hfz16_3
         try clear hfz16_4
         try clear hfz19_0
         try clear hfz19_1
         try clear hfz19_2
         try clear hfz19_3
         try clear hfz19_4
         try clear hfz20_0
         try clear hfz20_1
         try clear hfz20_2
         try clear hfz20_3
         try clear hfz20_4
         try clear hfz8_0
         try clear hfz8_1
         try clear hfz8_2
         try clear hfz8_3
         try clear hfz8_4
         try clear hx132_0
         try clear hx132_1
         try clear hx132_2
         try clear hx132_3
         try clear hx132_4
         try clear hx134_0
         try clear hx135_0
         try clear hx135_1
         try clear hx135_2
         try clear hx135_3
         try clear hx135_4
         try clear p1
         try clear p13
         try clear p132
         try clear p134
         try clear p135
         try clear p2
         try clear p6
         try clear q1
         try clear q13
         try clear q132
         try clear q134
         try clear q135
         obtain ⟨x9_3, x10_3, rfl, rfl, HA, HK3, BK133, HB⟩ := hrel
         cases gk with
         | zero => exact absurd HA.out (by simp [reticuleref08_pretty.l1])
         | succ k3 =>
          have H := HA.out
          clear HA
          simp only [reticuleref08_pretty.l1] at H
          by_cases c24 : x10_3 < (((rd_T61 l0 a1).f3).length : Int)
          ·rw [if_pos c24] at H
           have c24b0 : decide (x10_3 < (((rd_T61 l0 a1).f3).length : Int)) = true := decide_eq_true c24
           clear c24
           by_cases c25 : x10_3 ≥ x8_5
           ·rw [if_pos c25] at H
            have c25b0 : decide (x8_5 ≤ x10_3) = true := decide_eq_true c25
            clear c25
            by_cases c26 : x9_3.size + 1 ≤ 9223372036854775807
            ·rw [if_pos c26] at H
             have c26b0 := eq_true c26
             have c26b1 : decide (x9_3.size + 1 ≤ 9223372036854775807) = true := decide_eq_true c26
             try have c26b2 : (9223372036854775807 < x9_3.size + 1) = False := eq_false (Nat.not_lt.2 c26)
             have H' := Aside0.mk H
             clear H
             have hcz27_0 : wr.cell? ⟨gb133, 0, none⟩ = some (.int .u8 ((rd_T61 l0 a1).f0)) := (blk_cell BK133.out 0).trans rfl
             have hcz27_1 : wr.cell? ⟨gb133, 1, none⟩ = some (.string ((rd_T61 l0 a1).f1)) := (blk_cell BK133.out 1).trans rfl
             have hcz27_2 : wr.cell? ⟨gb133, 2, none⟩ = some (.int .i64 ((rd_T61 l0 a1).f2)) := (blk_cell BK133.out 2).trans rfl
             have hcz27_3 : wr.cell? ⟨gb133, 3, none⟩ = some (.slice A132_3 ((rd_T61 l0 a1).f3).length c132_3) := (blk_cell BK133.out 3).trans rfl
             have hcz27_4 : wr.cell? ⟨gb133, 4, none⟩ = some (.int .i64 ((rd_T61 l0 a1).f4)) := (blk_cell BK133.out 4).trans rfl
             have hfz27_0 := blk_frozen BK133.out 0
             have hfz27_1 := blk_frozen BK133.out 1
             have hfz27_2 := blk_frozen BK133.out 2
             have hfz27_3 := blk_frozen BK133.out 3
             have hfz27_4 := blk_frozen BK133.out 4
             go_wp2
             go_loopg [9, 11] k3 (fun kq v9 v11 w' => ∃ (x9_4 : ByteArray) (x11_4 : Int), v9 = .string x9_4 ∧ v11 = .int .i64 x11_4 ∧ Aside0 (reticuleref08_pretty.l2 kq l0 a2 x8_5 x9_4 x10_3 x11_4 ((rd_T61 l0 a1).f0) ((rd_T61 l0 a1).f1) ((rd_T61 l0 a1).f2) ((rd_T61 l0 a1).f3) ((rd_T61 l0 a1).f4) = some r) ∧ Aside0 (kq ≤ k3) ∧ Aside0 (w'.heap[gb133]? = some (.cells #[.int .u8 ((rd_T61 l0 a1).f0), .string ((rd_T61 l0 a1).f1), .int .i64 ((rd_T61 l0 a1).f2), (.slice A132_3 ((rd_T61 l0 a1).f3).length c132_3), .int .i64 ((rd_T61 l0 a1).f4)] 61 (0, 0))) ∧ Aside0 (Below w.heap.size w w'))
             case atStart => exact ⟨(x9_3 ++ (⟨#[10]⟩ : ByteArray)), (0), (by first | rfl | (simp; done) | (simp [*]; done)), (by first | rfl | (simp; done) | (simp [*]; done)), H', ⟨Nat.le_refl _⟩, ⟨by (with_reducible repeat (first | refine blk_drewN ?_ _ | refine blk_drew ?_ | refine blk_alloc ?_ _)); exact BK133.out⟩, ⟨by repeat (first | (with_reducible first | exact HB.out | apply below_alloc | apply pw_below_drewN | apply below_drew1 | refine below_set ?_ GE133.out) | exact HB.out)⟩⟩
             case round =>
              clear H'
              try clear c1
              try clear p1
              try clear q1
              try clear hx1
              try clear c2
              try clear p2
              try clear c4
              try clear c4b0
              try clear c5
              try clear c5b0
              try clear p6
              try clear c9
              try clear c9b0
              try clear c10
              try clear c10b0
              try clear c11
              try clear c11b0
              try clear c12
              try clear c12b0
              try clear c13
              try clear c13b0
              try clear c13b1
              try clear p13
              try clear q13
              try clear hx13
              try clear c18
              try clear c18b0
              try clear c18b1
              try clear c21
              try clear c23
              try clear c24
              try clear c24b0
              try clear c25
              try clear c25b0
              try clear c26
              try clear c26b0
              try clear c26b1
              try clear c26b2
              try clear hcz14_0
              try clear hcz14_1
              try clear hcz14_2
              try clear hcz14_3
              try clear hcz14_4
              try clear hcz15_0
              try clear hcz15_1
              try clear hcz15_2
              try clear hcz15_3
              try clear hcz15_4
              try clear hcz16_0
              try clear hcz16_1
              try clear hcz16_2
              try clear hcz16_3
              try clear hcz16_4
              try clear hcz19_0
              try clear hcz19_1
              try clear hcz19_2
              try clear hcz19_3
              try clear hcz19_4
              try clear hcz20_0
              try clear hcz20_1
              try clear hcz20_2
              try clear hcz20_3
              try clear hcz20_4
              try clear hcz27_0
              try clear hcz27_1
              try clear hcz27_2
              try clear hcz27_3
              try clear hcz27_4
              try clear hcz8_0
              try clear hcz8_1
              try clear hcz8_2
              try clear hcz8_3
              try clear hcz8_4
              try clear hfz14_0
              try clear hfz14_1
              try clear hfz14_2
              try clear hfz14_3
              try clear hfz14_4
              try clear hfz15_0
              try clear hfz15_1
              try clear hfz15_2
              try clear hfz15_3
              try clear hfz15_4
              try clear hfz16_0
              try clear hfz16_1
              try clear hfz16_2
              try clear hfz16_3
              try clear hfz16_4
              try clear hfz19_0
              try clear hfz19_1
              try clear hfz19_2
              try clear hfz19_3
              try clear hfz19_4
              try clear hfz20_0
              try clear hfz20_1
              try clear hfz20_2
              try clear hfz20_3
              try clear hfz20_4
              try clear hfz27_0
              try clear hfz27_1
              try clear hfz27_2
              try clear hfz27_3
              try clear hfz27_4
              try clear hfz8_0
              try clear hfz8_1
              try clear hfz8_2
              try clear hfz8_3
              try clear hfz8_4
              try clear hx132_0
              try clear hx132_1
              try clear hx132_2
              try clear hx132_3
              try clear hx132_4
              try clear hx134_0
              try clear hx135_0
              try clear hx135_1
              try clear hx135_2
              try clear hx135_3
              try clear hx135_4
              try clear p1
              try clear p13
              try clear p132
              try clear p134
              try clear p135
              try clear p2
              try clear p6
              try clear q1
              try clear q13
              try clear q132
              try clear q134
              try clear q135
              obtain ⟨x9_4, x11_4, rfl, rfl, HA, HK4, BK133, HB⟩ := hrel
              cases gk with
              | zero => exact absurd HA.out (by simp [reticuleref08_pretty.l2])
              | succ k4 =>
               have H := HA.out
               clear HA
               simp only [reticuleref08_pretty.l2] at H
               by_cases c28 : x11_4 < a2
               ·rw [if_pos c28] at H
                have c28b0 : decide (x11_4 < a2) = true := decide_eq_true c28
                clear c28
                by_cases c29 : x9_4.size + 2 ≤ 9223372036854775807
                ·rw [if_pos c29] at H
                 have c29b0 := eq_true c29
                 have c29b1 : decide (x9_4.size + 2 ≤ 9223372036854775807) = true := decide_eq_true c29
                 try have c29b2 : (9223372036854775807 < x9_4.size + 2) = False := eq_false (Nat.not_lt.2 c29)
                 have H' := Aside0.mk H
                 clear H
                 go_wp2
                 go_roundg k4
                 case measure => have := HJ5.out; have := HJ16.out; have := HK3.out; have := HK4.out; omega
                 case rel => exact ⟨(x9_4 ++ (⟨#[32, 32]⟩ : ByteArray)), (wrap64 (x11_4 + 1)), (by first | rfl | (simp; done) | (simp [*]; done)), (by first | rfl | (simp; done) | (simp [*]; done)), H', ⟨by have := HJ5.out; have := HJ16.out; have := HK3.out; have := HK4.out; omega⟩, ⟨by (with_reducible repeat (first | refine blk_drewN ?_ _ | refine blk_drew ?_ | refine blk_alloc ?_ _)); exact BK133.out⟩, ⟨by repeat (first | (with_reducible first | exact HB.out | apply below_alloc | apply pw_below_drewN | apply below_drew1 | refine below_set ?_ GE133.out) | exact HB.out)⟩⟩
                ·rw [if_neg c29] at H
                 exact absurd H (by simp)
               ·rw [if_neg c28] at H
                have c28b0 : decide (x11_4 < a2) = false := decide_eq_false c28
                clear c28
                by_cases c30 : 0 ≤ x10_3
                ·rw [if_pos c30] at H
                 have c30b0 : decide (0 ≤ x10_3) = true := decide_eq_true c30
                 clear c30
                 by_cases c31 : x10_3 < (((rd_T61 l0 a1).f3).length : Int)
                 ·rw [if_pos c31] at H
                  have c31b0 : decide (x10_3 < (((rd_T61 l0 a1).f3).length : Int)) = true := decide_eq_true c31
                  clear c31
                  replace H := Option.bind_eq_some_iff.mp H
                  obtain ⟨t138, A320, H⟩ := H
                  replace H : (if x9_4.size + t138.size ≤ 9223372036854775807 then (reticuleref08_pretty.l1 k4 l0 a2 x8_5 (x9_4 ++ t138) (wrap64 (x10_3 + 1)) ((rd_T61 l0 a1).f0) ((rd_T61 l0 a1).f1) ((rd_T61 l0 a1).f2) ((rd_T61 l0 a1).f3) ((rd_T61 l0 a1).f4)) else (none)) = some r := H
                  have A32 := Aside0.mk A320
                  clear A320
                  by_cases c33 : x9_4.size + t138.size ≤ 9223372036854775807
                  ·rw [if_pos c33] at H
                   have c33b0 := eq_true c33
                   have c33b1 : decide (x9_4.size + t138.size ≤ 9223372036854775807) = true := decide_eq_true c33
                   try have c33b2 : (9223372036854775807 < x9_4.size + t138.size) = False := eq_false (Nat.not_lt.2 c33)
                   have H' := Aside0.mk H
                   clear H
                   have hcz34_0 : wr.cell? ⟨gb133, 0, none⟩ = some (.int .u8 ((rd_T61 l0 a1).f0)) := (blk_cell BK133.out 0).trans rfl
                   have hcz34_1 : wr.cell? ⟨gb133, 1, none⟩ = some (.string ((rd_T61 l0 a1).f1)) := (blk_cell BK133.out 1).trans rfl
                   have hcz34_2 : wr.cell? ⟨gb133, 2, none⟩ = some (.int .i64 ((rd_T61 l0 a1).f2)) := (blk_cell BK133.out 2).trans rfl
                   have hcz34_3 : wr.cell? ⟨gb133, 3, none⟩ = some (.slice A132_3 ((rd_T61 l0 a1).f3).length c132_3) := (blk_cell BK133.out 3).trans rfl
                   have hcz34_4 : wr.cell? ⟨gb133, 4, none⟩ = some (.int .i64 ((rd_T61 l0 a1).f4)) := (blk_cell BK133.out 4).trans rfl
                   have hfz34_0 := blk_frozen BK133.out 0
                   have hfz34_1 := blk_frozen BK133.out 1
                   have hfz34_2 := blk_frozen BK133.out 2
                   have hfz34_3 := blk_frozen BK133.out 3
                   have hfz34_4 := blk_frozen BK133.out 4
                   have p137 : 0 ≤ (x10_3 : Int) := of_decide_eq_true (by first | (with_reducible assumption) | assumption)
                   have q137 : x10_3 < (((rd_T61 l0 a1).f3).length : Int) := of_decide_eq_true (by first | (with_reducible assumption) | assumption)
                   obtain ⟨ad137, e137, hx137_0⟩ := Kd.at_int HR132_3.out x10_3 p137 q137
                   cases e137
                   replace hx137_0 := (HB.out.cell (World.block_lt_of_cell? w _ hx137_0)).trans hx137_0
                   replace p137 := eq_true p137
                   replace q137 := eq_true q137
                   go_wp2_with (first | ((with_reducible refine gate_callee (f := 28) rfl ?_); refine goesL_ (some 86) rfl rfl Tryd.func28 (by kernel_rfl) rfl #[.slice (some ad132) l0.length c0, .int .i64 (rd ((rd_T61 l0 a1).f3) x10_3), .int .i64 (wrap64 (a2 + 1))] rfl (by (try simp only [List.map_toArray, List.map_cons, List.map_nil]); first | done | rfl | (simp only [List.length_drop, List.length_take]; rfl)) ?_; (with_reducible refine (ih k4 (by have := HJ5.out; have := HJ16.out; have := HK3.out; have := HK4.out; omega) _ _ l0 (rd ((rd_T61 l0 a1).f3) x10_3) (wrap64 (a2 + 1)) t138 _ ?sideT ?side1 ?side2 A32.out).mono ?_); (case sideT => exact Go.Proofs.YtldjbgonlbmeaaaDoor.Dig.Tab.bel HT (by repeat (first | (with_reducible first | exact HB.out | apply below_alloc | apply pw_below_drewN | apply below_drew1 | apply below_drew) | exact HB.out | exact Below.refl _ _ | refine below_set ?_ GE133.out))); (case side1 => repeat (first | exact (Kd.C_below HR0.out HB.out) | (with_reducible refine Kd.C_alloc ?_ _) | (with_reducible refine Kd.C_drewN ?_ _) | (with_reducible refine Kd.C_drew ?_))); (case side2 => exact HC0.out); rintro e w35 ⟨rfl, hb⟩; refine ⟨_, rfl, ?_⟩; have n0_ := Aside0.mk (blk_below (g := gb133) (o := .cells #[.int .u8 ((rd_T61 l0 a1).f0), .string ((rd_T61 l0 a1).f1), .int .i64 ((rd_T61 l0 a1).f2), .slice (some ad137) ((rd_T61 l0 a1).f3).length c132_3, .int .i64 ((rd_T61 l0 a1).f4)] 61 (0, 0)) (by (with_reducible repeat (first | refine blk_drewN ?_ _ | refine blk_drew ?_ | refine blk_alloc ?_ _)); exact BK133.out) hb); have n1_ := Aside0.mk (below_step (by repeat (first | (with_reducible first | exact HB.out | apply below_alloc | apply pw_below_drewN | apply below_drew1 | refine below_set ?_ GE133.out) | exact HB.out)) hb); clear BK133; clear HB; have BK133 := n0_; have HB := n1_; clear n0_ n1_; (try clear hb); (try clear hb2); (try clear hk); (try clear hi)))
                   go_roundg k4
                   case measure => have := HJ5.out; have := HJ16.out; have := HK3.out; have := HK4.out; omega
                   case rel => exact ⟨(x9_4 ++ t138), (wrap64 (x10_3 + 1)), (by first | rfl | (simp; done) | (simp [*]; done)), (by first | rfl | (simp; done) | (simp [*]; done)), H', ⟨by have := HJ5.out; have := HJ16.out; have := HK3.out; have := HK4.out; omega⟩, ⟨by (with_reducible repeat (first | refine blk_drewN ?_ _ | refine blk_drew ?_ | refine blk_alloc ?_ _)); exact BK133.out⟩, ⟨by repeat (first | (with_reducible first | exact HB.out | apply below_alloc | apply pw_below_drewN | apply below_drew1 | refine below_set ?_ GE133.out) | exact HB.out)⟩⟩
                  ·rw [if_neg c33] at H
                   exact absurd H (by simp)
                 ·rw [if_neg c31] at H
                  exact absurd H (by simp)
                ·rw [if_neg c30] at H
                 exact absurd H (by simp)
            ·rw [if_neg c26] at H
             exact absurd H (by simp)
           ·rw [if_neg c25] at H
            have c25b0 : decide (x8_5 ≤ x10_3) = false := decide_eq_false c25
            clear c25
            by_cases c36 : x10_3 > 0
            ·rw [if_pos c36] at H
             have c36b0 : decide (0 < x10_3) = true := decide_eq_true c36
             clear c36
             by_cases c37 : 0 ≤ x10_3
             ·rw [if_pos c37] at H
              have c37b0 : decide (0 ≤ x10_3) = true := decide_eq_true c37
              clear c37
              replace H := Option.bind_eq_some_iff.mp H
              obtain ⟨t140, A380, H⟩ := H
              replace H : (if 1 + t140.size ≤ 9223372036854775807 then (if x9_3.size + ((⟨#[32]⟩ : ByteArray) ++ t140).size ≤ 9223372036854775807 then (reticuleref08_pretty.l1 k3 l0 a2 x8_5 (x9_3 ++ ((⟨#[32]⟩ : ByteArray) ++ t140)) (wrap64 (x10_3 + 1)) ((rd_T61 l0 a1).f0) ((rd_T61 l0 a1).f1) ((rd_T61 l0 a1).f2) ((rd_T61 l0 a1).f3) ((rd_T61 l0 a1).f4)) else (none)) else (none)) = some r := H
              have A38 := Aside0.mk A380
              clear A380
              by_cases c39 : 1 + t140.size ≤ 9223372036854775807
              ·rw [if_pos c39] at H
               have c39b0 := eq_true c39
               have c39b1 : decide (1 + t140.size ≤ 9223372036854775807) = true := decide_eq_true c39
               try have c39b2 : (9223372036854775807 < 1 + t140.size) = False := eq_false (Nat.not_lt.2 c39)
               by_cases c40 : x9_3.size + ((⟨#[32]⟩ : ByteArray) ++ t140).size ≤ 9223372036854775807
               ·rw [if_pos c40] at H
                have c40b0 := eq_true c40
                have c40b1 : decide (x9_3.size + ((⟨#[32]⟩ : ByteArray) ++ t140).size ≤ 9223372036854775807) = true := decide_eq_true c40
                try have c40b2 : (9223372036854775807 < x9_3.size + ((⟨#[32]⟩ : ByteArray) ++ t140).size) = False := eq_false (Nat.not_lt.2 c40)
                try (have c40b3 := c40b2; simp only [ByteArray.size_append, show (⟨#[32]⟩ : ByteArray).size = 1 from rfl] at c40b3)
                have H' := Aside0.mk H
                clear H
                have hcz41_0 : wr.cell? ⟨gb133, 0, none⟩ = some (.int .u8 ((rd_T61 l0 a1).f0)) := (blk_cell BK133.out 0).trans rfl
                have hcz41_1 : wr.cell? ⟨gb133, 1, none⟩ = some (.string ((rd_T61 l0 a1).f1)) := (blk_cell BK133.out 1).trans rfl
                have hcz41_2 : wr.cell? ⟨gb133, 2, none⟩ = some (.int .i64 ((rd_T61 l0 a1).f2)) := (blk_cell BK133.out 2).trans rfl
                have hcz41_3 : wr.cell? ⟨gb133, 3, none⟩ = some (.slice A132_3 ((rd_T61 l0 a1).f3).length c132_3) := (blk_cell BK133.out 3).trans rfl
                have hcz41_4 : wr.cell? ⟨gb133, 4, none⟩ = some (.int .i64 ((rd_T61 l0 a1).f4)) := (blk_cell BK133.out 4).trans rfl
                have hfz41_0 := blk_frozen BK133.out 0
                have hfz41_1 := blk_frozen BK133.out 1
                have hfz41_2 := blk_frozen BK133.out 2
                have hfz41_3 := blk_frozen BK133.out 3
                have hfz41_4 := blk_frozen BK133.out 4
                have p139 : 0 ≤ (x10_3 : Int) := of_decide_eq_true (by first | (with_reducible assumption) | assumption)
                have q139 : x10_3 < (((rd_T61 l0 a1).f3).length : Int) := of_decide_eq_true (by first | (with_reducible assumption) | assumption)
                obtain ⟨ad139, e139, hx139_0⟩ := Kd.at_int HR132_3.out x10_3 p139 q139
                cases e139
                replace hx139_0 := (HB.out.cell (World.block_lt_of_cell? w _ hx139_0)).trans hx139_0
                replace p139 := eq_true p139
                replace q139 := eq_true q139
                go_wp2_with (first | ((with_reducible refine gate_callee (f := 23) rfl ?_); refine goesL_ (some 98) rfl rfl Tryd.func23 (by kernel_rfl) rfl #[.slice (some ad132) l0.length c0, .int .i64 (rd ((rd_T61 l0 a1).f3) x10_3)] rfl (by (try simp only [List.map_toArray, List.map_cons, List.map_nil]); first | done | rfl | (simp only [List.length_drop, List.length_take]; rfl)) ?_; (with_reducible refine (reticuleref08_text.calls k3 _ _ l0 (rd ((rd_T61 l0 a1).f3) x10_3) t140 _ ?sideT ?side1 ?side2 A38.out).mono ?_); (case sideT => exact Go.Proofs.YtldjbgonlbmeaaaDoor.Dig.Tab.bel HT (by repeat (first | (with_reducible first | exact HB.out | apply below_alloc | apply pw_below_drewN | apply below_drew1 | apply below_drew) | exact HB.out | exact Below.refl _ _ | refine below_set ?_ GE133.out))); (case side1 => repeat (first | exact (Kd.C_below HR0.out HB.out) | (with_reducible refine Kd.C_alloc ?_ _) | (with_reducible refine Kd.C_drewN ?_ _) | (with_reducible refine Kd.C_drew ?_))); (case side2 => exact HC0.out); rintro e w42 ⟨rfl, hb⟩; refine ⟨_, rfl, ?_⟩; have n0_ := Aside0.mk (blk_below (g := gb133) (o := .cells #[.int .u8 ((rd_T61 l0 a1).f0), .string ((rd_T61 l0 a1).f1), .int .i64 ((rd_T61 l0 a1).f2), .slice (some ad139) ((rd_T61 l0 a1).f3).length c132_3, .int .i64 ((rd_T61 l0 a1).f4)] 61 (0, 0)) (by (with_reducible repeat (first | refine blk_drewN ?_ _ | refine blk_drew ?_ | refine blk_alloc ?_ _)); exact BK133.out) hb); have n1_ := Aside0.mk (below_step (by repeat (first | (with_reducible first | exact HB.out | apply below_alloc | apply pw_below_drewN | apply below_drew1 | refine below_set ?_ GE133.out) | exact HB.out)) hb); clear BK133; clear HB; have BK133 := n0_; have HB := n1_; clear n0_ n1_; (try clear hb); (try clear hb2); (try clear hk); (try clear hi)))
                go_roundg k3
                case measure => have := HJ5.out; have := HJ16.out; have := HK3.out; omega
                case rel => exact ⟨(x9_3 ++ ((⟨#[32]⟩ : ByteArray) ++ t140)), (wrap64 (x10_3 + 1)), (by first | rfl | (simp; done) | (simp [*]; done)), (by first | rfl | (simp; done) | (simp [*]; done)), H', ⟨by have := HJ5.out; have := HJ16.out; have := HK3.out; omega⟩, ⟨by (with_reducible repeat (first | refine blk_drewN ?_ _ | refine blk_drew ?_ | refine blk_alloc ?_ _)); exact BK133.out⟩, ⟨by repeat (first | (with_reducible first | exact HB.out | apply below_alloc | apply pw_below_drewN | apply below_drew1 | refine below_set ?_ GE133.out) | exact HB.out)⟩⟩
               ·rw [if_neg c40] at H
                exact absurd H (by simp)
              ·rw [if_neg c39] at H
               exact absurd H (by simp)
             ·rw [if_neg c37] at H
              exact absurd H (by simp)
            ·rw [if_neg c36] at H
             have c36b0 : decide (0 < x10_3) = false := decide_eq_false c36
             clear c36
             by_cases c43 : 0 ≤ x10_3
             ·rw [if_pos c43] at H
              have c43b0 : decide (0 ≤ x10_3) = true := decide_eq_true c43
              clear c43
              replace H := Option.bind_eq_some_iff.mp H
              obtain ⟨t142, A440, H⟩ := H
              replace H : (if x9_3.size + t142.size ≤ 9223372036854775807 then (reticuleref08_pretty.l1 k3 l0 a2 x8_5 (x9_3 ++ t142) (wrap64 (x10_3 + 1)) ((rd_T61 l0 a1).f0) ((rd_T61 l0 a1).f1) ((rd_T61 l0 a1).f2) ((rd_T61 l0 a1).f3) ((rd_T61 l0 a1).f4)) else (none)) = some r := H
              have A44 := Aside0.mk A440
              clear A440
              by_cases c45 : x9_3.size + t142.size ≤ 9223372036854775807
              ·rw [if_pos c45] at H
               have c45b0 := eq_true c45
               have c45b1 : decide (x9_3.size + t142.size ≤ 9223372036854775807) = true := decide_eq_true c45
               try have c45b2 : (9223372036854775807 < x9_3.size + t142.size) = False := eq_false (Nat.not_lt.2 c45)
               have H' := Aside0.mk H
               clear H
               have hcz46_0 : wr.cell? ⟨gb133, 0, none⟩ = some (.int .u8 ((rd_T61 l0 a1).f0)) := (blk_cell BK133.out 0).trans rfl
               have hcz46_1 : wr.cell? ⟨gb133, 1, none⟩ = some (.string ((rd_T61 l0 a1).f1)) := (blk_cell BK133.out 1).trans rfl
               have hcz46_2 : wr.cell? ⟨gb133, 2, none⟩ = some (.int .i64 ((rd_T61 l0 a1).f2)) := (blk_cell BK133.out 2).trans rfl
               have hcz46_3 : wr.cell? ⟨gb133, 3, none⟩ = some (.slice A132_3 ((rd_T61 l0 a1).f3).length c132_3) := (blk_cell BK133.out 3).trans rfl
               have hcz46_4 : wr.cell? ⟨gb133, 4, none⟩ = some (.int .i64 ((rd_T61 l0 a1).f4)) := (blk_cell BK133.out 4).trans rfl
               have hfz46_0 := blk_frozen BK133.out 0
               have hfz46_1 := blk_frozen BK133.out 1
               have hfz46_2 := blk_frozen BK133.out 2
               have hfz46_3 := blk_frozen BK133.out 3
               have hfz46_4 := blk_frozen BK133.out 4
               have p141 : 0 ≤ (x10_3 : Int) := of_decide_eq_true (by first | (with_reducible assumption) | assumption)
               have q141 : x10_3 < (((rd_T61 l0 a1).f3).length : Int) := of_decide_eq_true (by first | (with_reducible assumption) | assumption)
               obtain ⟨ad141, e141, hx141_0⟩ := Kd.at_int HR132_3.out x10_3 p141 q141
               cases e141
               replace hx141_0 := (HB.out.cell (World.block_lt_of_cell? w _ hx141_0)).trans hx141_0
               replace p141 := eq_true p141
               replace q141 := eq_true q141
               go_wp2_with (first | ((with_reducible refine gate_callee (f := 23) rfl ?_); refine goesL_ (some 62) rfl rfl Tryd.func23 (by kernel_rfl) rfl #[.slice (some ad132) l0.length c0, .int .i64 (rd ((rd_T61 l0 a1).f3) x10_3)] rfl (by (try simp only [List.map_toArray, List.map_cons, List.map_nil]); first | done | rfl | (simp only [List.length_drop, List.length_take]; rfl)) ?_; (with_reducible refine (reticuleref08_text.calls k3 _ _ l0 (rd ((rd_T61 l0 a1).f3) x10_3) t142 _ ?sideT ?side1 ?side2 A44.out).mono ?_); (case sideT => exact Go.Proofs.YtldjbgonlbmeaaaDoor.Dig.Tab.bel HT (by repeat (first | (with_reducible first | exact HB.out | apply below_alloc | apply pw_below_drewN | apply below_drew1 | apply below_drew) | exact HB.out | exact Below.refl _ _ | refine below_set ?_ GE133.out))); (case side1 => repeat (first | exact (Kd.C_below HR0.out HB.out) | (with_reducible refine Kd.C_alloc ?_ _) | (with_reducible refine Kd.C_drewN ?_ _) | (with_reducible refine Kd.C_drew ?_))); (case side2 => exact HC0.out); rintro e w47 ⟨rfl, hb⟩; refine ⟨_, rfl, ?_⟩; have n0_ := Aside0.mk (blk_below (g := gb133) (o := .cells #[.int .u8 ((rd_T61 l0 a1).f0), .string ((rd_T61 l0 a1).f1), .int .i64 ((rd_T61 l0 a1).f2), .slice (some ad141) ((rd_T61 l0 a1).f3).length c132_3, .int .i64 ((rd_T61 l0 a1).f4)] 61 (0, 0)) (by (with_reducible repeat (first | refine blk_drewN ?_ _ | refine blk_drew ?_ | refine blk_alloc ?_ _)); exact BK133.out) hb); have n1_ := Aside0.mk (below_step (by repeat (first | (with_reducible first | exact HB.out | apply below_alloc | apply pw_below_drewN | apply below_drew1 | refine below_set ?_ GE133.out) | exact HB.out)) hb); clear BK133; clear HB; have BK133 := n0_; have HB := n1_; clear n0_ n1_; (try clear hb); (try clear hb2); (try clear hk); (try clear hi)))
               go_roundg k3
               case measure => have := HJ5.out; have := HJ16.out; have := HK3.out; omega
               case rel => exact ⟨(x9_3 ++ t142), (wrap64 (x10_3 + 1)), (by first | rfl | (simp; done) | (simp [*]; done)), (by first | rfl | (simp; done) | (simp [*]; done)), H', ⟨by have := HJ5.out; have := HJ16.out; have := HK3.out; omega⟩, ⟨by (with_reducible repeat (first | refine blk_drewN ?_ _ | refine blk_drew ?_ | refine blk_alloc ?_ _)); exact BK133.out⟩, ⟨by repeat (first | (with_reducible first | exact HB.out | apply below_alloc | apply pw_below_drewN | apply below_drew1 | refine below_set ?_ GE133.out) | exact HB.out)⟩⟩
              ·rw [if_neg c45] at H
               exact absurd H (by simp)
             ·rw [if_neg c43] at H
              exact absurd H (by simp)
          ·rw [if_neg c24] at H
           have c24b0 : decide (x10_3 < (((rd_T61 l0 a1).f3).length : Int)) = false := decide_eq_false c24
           clear c24
           by_cases c48 : x9_3.size + 1 ≤ 9223372036854775807
           ·rw [if_pos c48] at H
            have c48b0 := eq_true c48
            have c48b1 : decide (x9_3.size + 1 ≤ 9223372036854775807) = true := decide_eq_true c48
            try have c48b2 : (9223372036854775807 < x9_3.size + 1) = False := eq_false (Nat.not_lt.2 c48)
            obtain rfl := Option.some.inj H
            have hcz49_0 : wr.cell? ⟨gb133, 0, none⟩ = some (.int .u8 ((rd_T61 l0 a1).f0)) := (blk_cell BK133.out 0).trans rfl
            have hcz49_1 : wr.cell? ⟨gb133, 1, none⟩ = some (.string ((rd_T61 l0 a1).f1)) := (blk_cell BK133.out 1).trans rfl
            have hcz49_2 : wr.cell? ⟨gb133, 2, none⟩ = some (.int .i64 ((rd_T61 l0 a1).f2)) := (blk_cell BK133.out 2).trans rfl
            have hcz49_3 : wr.cell? ⟨gb133, 3, none⟩ = some (.slice A132_3 ((rd_T61 l0 a1).f3).length c132_3) := (blk_cell BK133.out 3).trans rfl
            have hcz49_4 : wr.cell? ⟨gb133, 4, none⟩ = some (.int .i64 ((rd_T61 l0 a1).f4)) := (blk_cell BK133.out 4).trans rfl
            have hfz49_0 := blk_frozen BK133.out 0
            have hfz49_1 := blk_frozen BK133.out 1
            have hfz49_2 := blk_frozen BK133.out 2
            have hfz49_3 := blk_frozen BK133.out 3
            have hfz49_4 := blk_frozen BK133.out 4
            go_wp2
            go_ret
            exact ⟨by first | rfl | (simp [errW_none, errW_some] <;> rfl) | (simp [*, errW_none, errW_some] <;> rfl), by repeat (first | (with_reducible first | exact HB.out | apply below_alloc | apply pw_below_drewN | apply below_drew1 | refine below_set ?_ GE133.out) | exact HB.out)⟩
           ·rw [if_neg c48] at H
            exact absurd H (by simp)
  ·rw [if_neg c5] at H
   exact absurd H (by simp)
 ·rw [if_neg c4] at H
  exact absurd H (by simp)

end Go.Proofs.YtldjbgonlbmeaaaDoor.PR
end
section
-- Machine-made walks, written for this claim by a program of this session (plug.py).
namespace Go.Proofs.YtldjbgonlbmeaaaDoor.PR
open Go.RowKit Go.Proofs.YtldjbgonlbmeaaaDoor.PA Go.Proofs.YtldjbgonlbmeaaaDoor.Dig Go.Proofs.YtldjbgonlbmeaaaDoorW.PrintWords Go.Proofs.YtldjbgonlbmeaaaDoorW.PrintLast Go.Proofs.YtldjbgonlbmeaaaDoorW.PrintMore
attribute [local go_sem] max2_int min2_int max_two min_two max_three min_three max_four min_four   -- for this text's walks alone
set_option linter.unusedVariables false
set_option linter.unusedSimpArgs false

def reticuleref08_Pretty.l0 : Nat → List (S61) → List Int → ByteArray → Int → Option (ByteArray × Int)
 | 0, _, _, _, _ => none
 | k + 1, x0, x1, x6, x7 => if x7 < (x1.length : Int) then (if 0 ≤ x7 then ((reticuleref08_pretty.f k x0 (rd x1 x7) 1).bind fun t145 => (if t145.size + 1 ≤ 9223372036854775807 then (if x6.size + (t145 ++ (⟨#[10]⟩ : ByteArray)).size ≤ 9223372036854775807 then (reticuleref08_Pretty.l0 k x0 x1 (x6 ++ (t145 ++ (⟨#[10]⟩ : ByteArray))) (wrap64 (x7 + 1))) else (none)) else (none))) else (none)) else (some (x6, 0))
def reticuleref08_Pretty.f (k : Nat) (l0 : List (S61)) (l1 : List Int) : Option (ByteArray × Int) := (reticuleref07_Right.f k l0 l1).bind fun t143 => (if t143 = true then (reticuleref08_Pretty.l0 k l0 l1 (⟨#[]⟩ : ByteArray) 0) else (some ((⟨#[]⟩ : ByteArray), 3)))
theorem reticuleref08_Pretty.mono_l : ∀ k, (∀ y0 y1 y2 y3, LeO (reticuleref08_Pretty.l0 k y0 y1 y2 y3) (reticuleref08_Pretty.l0 (k + 1) y0 y1 y2 y3))
 | 0 => fun _ _ _ _ r h => by simp [reticuleref08_Pretty.l0] at h
 | k + 1 => by
  have ih0 := reticuleref08_Pretty.mono_l k
  ·intro y0 y1 y2 y3
   unfold reticuleref08_Pretty.l0
   repeat' first
   | (with_reducible exact ih0 _ _ _ _)
   | (with_reducible exact reticuleref07_Right.mono _ _ _)
   | (with_reducible exact reticuleref08_pretty.mono _ _ _ _)
   | (with_reducible exact LeO.refl _)
   | (with_reducible exact LeO.none _)
   | (with_reducible refine LeO.ite ?_ ?_)
   | (with_reducible refine LeO.bind ?_ (fun _ => ?_))
   | exact ih0 _ _ _ _
   | exact reticuleref07_Right.mono _ _ _
   | exact reticuleref08_pretty.mono _ _ _ _
   | exact LeO.none _
   | refine LeO.ite ?_ ?_
   | refine LeO.bind ?_ (fun _ => ?_)
theorem reticuleref08_Pretty.mono : ∀ a0 a1 k, LeO (reticuleref08_Pretty.f k a0 a1) (reticuleref08_Pretty.f (k + 1) a0 a1) := by
 intro a0 a1 k
 have ih0 := reticuleref08_Pretty.mono_l k
 unfold reticuleref08_Pretty.f
 repeat' first
   | (with_reducible exact ih0 _ _ _ _)
   | (with_reducible exact reticuleref07_Right.mono _ _ _)
   | (with_reducible exact reticuleref08_pretty.mono _ _ _ _)
   | (with_reducible exact LeO.refl _)
   | (with_reducible exact LeO.none _)
   | (with_reducible refine LeO.ite ?_ ?_)
   | (with_reducible refine LeO.bind ?_ (fun _ => ?_))
   | exact ih0 _ _ _ _
   | exact reticuleref07_Right.mono _ _ _
   | exact reticuleref08_pretty.mono _ _ _ _
   | exact LeO.none _
   | refine LeO.ite ?_ ?_
   | refine LeO.bind ?_ (fun _ => ?_)
set_option maxHeartbeats 8000000 in
set_option maxRecDepth 100000 in
theorem reticuleref08_Pretty.calls (k : Nat) (A0 : Option Addr) (c0 : Nat) (l0 : List (S61)) (A1 : Option Addr) (c1 : Nat) (l1 : List Int) (r1 : ByteArray) (r2 : Int) (w : World) (HT : Aside0 (Go.Proofs.YtldjbgonlbmeaaaDoor.Dig.Tab w)) (hr0 : Kd.C k61 w A0 l0.length l0) (hc0 : l0.length ≤ c0) (hr1 : Kd.C (Kd.int .i64) w A1 l1.length l1) (hc1 : l1.length ≤ c1) (h : reticuleref08_Pretty.f k l0 l1 = some (r1, r2)) :
  Calls Tryd.prog 12 #[.slice A0 l0.length c0, .slice A1 l1.length c1] w fun e w' => e = .returned (.tuple #[.string r1, .int .i64 r2]) ∧ Below w.heap.size w w' := by
 have HR0 := Aside0.mk hr0
 have HC0 := Aside0.mk hc0
 clear hr0 hc0
 have HR1 := Aside0.mk hr1
 have HC1 := Aside0.mk hc1
 clear hr1 hc1
 have HB := Aside0.mk (Below.refl w.heap.size w)
 have H : ((reticuleref07_Right.f k l0 l1).bind fun t143 => (if t143 = true then (reticuleref08_Pretty.l0 k l0 l1 (⟨#[]⟩ : ByteArray) 0) else (some ((⟨#[]⟩ : ByteArray), 3)))) = some (r1, r2) := h
 clear h
 replace H := Option.bind_eq_some_iff.mp H
 obtain ⟨t143, A30, H⟩ := H
 replace H : (if t143 = true then (reticuleref08_Pretty.l0 k l0 l1 (⟨#[]⟩ : ByteArray) 0) else (some ((⟨#[]⟩ : ByteArray), 3))) = some (r1, r2) := H
 have A3 := Aside0.mk A30
 clear A30
 by_cases c4 : t143 = true
 ·subst c4
  have H1 : (reticuleref08_Pretty.l0 k l0 l1 (⟨#[]⟩ : ByteArray) 0) = some (r1, r2) := by rw [if_pos rfl] at H; exact H
  clear H
  have H := H1
  clear H1
  have H' := Aside0.mk H
  clear H
  go_enter Tryd.func12, Tryd.ntmps12
  go_wp2_with (first | ((with_reducible refine gate_callee (f := 22) rfl ?_); refine goesL_ (some 10) rfl rfl Tryd.func22 (by kernel_rfl) rfl #[.slice A0 l0.length c0, .slice A1 l1.length c1] rfl (by (try simp only [List.map_toArray, List.map_cons, List.map_nil]); first | done | rfl | (simp only [List.length_drop, List.length_take]; rfl)) ?_; (with_reducible refine (reticuleref07_Right.calls k _ _ l0 _ _ l1 true _ ?side1 ?side2 ?side3 ?side4 A3.out).mono ?_); (case side1 => repeat (first | exact HR0.out | (with_reducible refine Kd.C_alloc ?_ _) | (with_reducible refine Kd.C_drewN ?_ _) | (with_reducible refine Kd.C_drew ?_))); (case side2 => exact HC0.out); (case side3 => repeat (first | exact HR1.out | (with_reducible refine Kd.C_alloc ?_ _) | (with_reducible refine Kd.C_drewN ?_ _) | (with_reducible refine Kd.C_drew ?_))); (case side4 => exact HC1.out); rintro e w5 ⟨rfl, hb⟩; refine ⟨_, rfl, ?_⟩; have n0_ := Aside0.mk (below_step (by repeat (first | (with_reducible first | exact HB.out | apply below_alloc | apply pw_below_drewN | apply below_drew1) | exact HB.out | exact Below.refl _ _)) hb); clear HB; have HB := n0_; clear n0_; (try clear hb); (try clear hb2); (try clear hk); (try clear hi)))
  go_loopg [6, 7] k (fun kq v6 v7 w' => ∃ (x6_1 : ByteArray) (x7_1 : Int), v6 = .string x6_1 ∧ v7 = .int .i64 x7_1 ∧ Aside0 (reticuleref08_Pretty.l0 kq l0 l1 x6_1 x7_1 = some (r1, r2)) ∧ Aside0 (kq ≤ k) ∧ Aside0 (Below w.heap.size w w'))
  case atStart => exact ⟨((⟨#[]⟩ : ByteArray)), (0), (by first | rfl | (simp; done) | (simp [*]; done)), (by first | rfl | (simp; done) | (simp [*]; done)), H', ⟨Nat.le_refl _⟩, ⟨by repeat (first | (with_reducible first | exact HB.out | apply below_alloc | apply pw_below_drewN | apply below_drew1) | exact HB.out | exact Below.refl _ _)⟩⟩
  case round =>
   clear H'
   try clear c1
   try clear c2
   try clear p2
   try clear c4
   obtain ⟨x6_1, x7_1, rfl, rfl, HA, HK1, HB⟩ := hrel
   cases gk with
   | zero => exact absurd HA.out (by simp [reticuleref08_Pretty.l0])
   | succ k1 =>
    have H := HA.out
    clear HA
    simp only [reticuleref08_Pretty.l0] at H
    by_cases c6 : x7_1 < (l1.length : Int)
    ·rw [if_pos c6] at H
     have c6b0 : decide (x7_1 < (l1.length : Int)) = true := decide_eq_true c6
     clear c6
     by_cases c7 : 0 ≤ x7_1
     ·rw [if_pos c7] at H
      have c7b0 : decide (0 ≤ x7_1) = true := decide_eq_true c7
      clear c7
      replace H := Option.bind_eq_some_iff.mp H
      obtain ⟨t145, A80, H⟩ := H
      replace H : (if t145.size + 1 ≤ 9223372036854775807 then (if x6_1.size + (t145 ++ (⟨#[10]⟩ : ByteArray)).size ≤ 9223372036854775807 then (reticuleref08_Pretty.l0 k1 l0 l1 (x6_1 ++ (t145 ++ (⟨#[10]⟩ : ByteArray))) (wrap64 (x7_1 + 1))) else (none)) else (none)) = some (r1, r2) := H
      have A8 := Aside0.mk A80
      clear A80
      by_cases c9 : t145.size + 1 ≤ 9223372036854775807
      ·rw [if_pos c9] at H
       have c9b0 := eq_true c9
       have c9b1 : decide (t145.size + 1 ≤ 9223372036854775807) = true := decide_eq_true c9
       try have c9b2 : (9223372036854775807 < t145.size + 1) = False := eq_false (Nat.not_lt.2 c9)
       by_cases c10 : x6_1.size + (t145 ++ (⟨#[10]⟩ : ByteArray)).size ≤ 9223372036854775807
       ·rw [if_pos c10] at H
        have c10b0 := eq_true c10
        have c10b1 : decide (x6_1.size + (t145 ++ (⟨#[10]⟩ : ByteArray)).size ≤ 9223372036854775807) = true := decide_eq_true c10
        try have c10b2 : (9223372036854775807 < x6_1.size + (t145 ++ (⟨#[10]⟩ : ByteArray)).size) = False := eq_false (Nat.not_lt.2 c10)
        try (have c10b3 := c10b2; simp only [ByteArray.size_append, show (⟨#[10]⟩ : ByteArray).size = 1 from rfl] at c10b3)
        have H' := Aside0.mk H
        clear H
        have p144 : 0 ≤ (x7_1 : Int) := of_decide_eq_true (by first | (with_reducible assumption) | assumption)
        have q144 : x7_1 < (l1.length : Int) := of_decide_eq_true (by first | (with_reducible assumption) | assumption)
        obtain ⟨ad144, e144, hx144_0⟩ := Kd.at_int HR1.out x7_1 p144 q144
        cases e144
        replace hx144_0 := (HB.out.cell (World.block_lt_of_cell? w _ hx144_0)).trans hx144_0
        replace p144 := eq_true p144
        replace q144 := eq_true q144
        go_wp2_with (first | ((with_reducible refine gate_callee (f := 28) rfl ?_); refine goesL_ (some 24) rfl rfl Tryd.func28 (by kernel_rfl) rfl #[.slice A0 l0.length c0, .int .i64 (rd l1 x7_1), .int .i64 1] rfl (by (try simp only [List.map_toArray, List.map_cons, List.map_nil]); first | done | rfl | (simp only [List.length_drop, List.length_take]; rfl)) ?_; (with_reducible refine (reticuleref08_pretty.calls k1 _ _ l0 (rd l1 x7_1) 1 t145 _ ?sideT ?side1 ?side2 A8.out).mono ?_); (case sideT => exact Go.Proofs.YtldjbgonlbmeaaaDoor.Dig.Tab.bel HT (by repeat (first | (with_reducible first | exact HB.out | apply below_alloc | apply pw_below_drewN | apply below_drew1 | apply below_drew) | exact HB.out | exact Below.refl _ _))); (case side1 => repeat (first | exact (Kd.C_below HR0.out HB.out) | (with_reducible refine Kd.C_alloc ?_ _) | (with_reducible refine Kd.C_drewN ?_ _) | (with_reducible refine Kd.C_drew ?_))); (case side2 => exact HC0.out); rintro e w11 ⟨rfl, hb⟩; refine ⟨_, rfl, ?_⟩; have n0_ := Aside0.mk (below_step (by repeat (first | (with_reducible first | exact HB.out | apply below_alloc | apply pw_below_drewN | apply below_drew1) | exact HB.out | exact Below.refl _ _)) hb); clear HB; have HB := n0_; clear n0_; (try clear hb); (try clear hb2); (try clear hk); (try clear hi)))
        go_roundg k1
        case measure => have := HK1.out; omega
        case rel => exact ⟨(x6_1 ++ (t145 ++ (⟨#[10]⟩ : ByteArray))), (wrap64 (x7_1 + 1)), (by first | rfl | (simp; done) | (simp [*]; done)), (by first | rfl | (simp; done) | (simp [*]; done)), H', ⟨by have := HK1.out; omega⟩, ⟨by repeat (first | (with_reducible first | exact HB.out | apply below_alloc | apply pw_below_drewN | apply below_drew1) | exact HB.out | exact Below.refl _ _)⟩⟩
       ·rw [if_neg c10] at H
        exact absurd H (by simp)
      ·rw [if_neg c9] at H
       exact absurd H (by simp)
     ·rw [if_neg c7] at H
      exact absurd H (by simp)
    ·rw [if_neg c6] at H
     have c6b0 : decide (x7_1 < (l1.length : Int)) = false := decide_eq_false c6
     clear c6
     simp only [Option.some.injEq, Prod.mk.injEq] at H
     obtain ⟨rfl, rfl⟩ := H
     go_wp2
     go_ret2
     exact ⟨by first | rfl | (simp [errW_none, errW_some] <;> rfl) | (simp [*, errW_none, errW_some] <;> rfl), by repeat (first | (with_reducible first | exact HB.out | apply below_alloc | apply pw_below_drewN | apply below_drew1) | exact HB.out | exact Below.refl _ _)⟩
 ·replace c4 := Bool.eq_false_iff.mpr c4
  subst c4
  have H1 : (some ((⟨#[]⟩ : ByteArray), 3)) = some (r1, r2) := by rw [if_neg (show ¬ (false = true) by decide)] at H; exact H
  clear H
  have H := H1
  clear H1
  simp only [Option.some.injEq, Prod.mk.injEq] at H
  obtain ⟨rfl, rfl⟩ := H
  go_enter Tryd.func12, Tryd.ntmps12
  go_wp2_with (first | ((with_reducible refine gate_callee (f := 22) rfl ?_); refine goesL_ (some 10) rfl rfl Tryd.func22 (by kernel_rfl) rfl #[.slice A0 l0.length c0, .slice A1 l1.length c1] rfl (by (try simp only [List.map_toArray, List.map_cons, List.map_nil]); first | done | rfl | (simp only [List.length_drop, List.length_take]; rfl)) ?_; (with_reducible refine (reticuleref07_Right.calls k _ _ l0 _ _ l1 false _ ?side1 ?side2 ?side3 ?side4 A3.out).mono ?_); (case side1 => repeat (first | exact HR0.out | (with_reducible refine Kd.C_alloc ?_ _) | (with_reducible refine Kd.C_drewN ?_ _) | (with_reducible refine Kd.C_drew ?_))); (case side2 => exact HC0.out); (case side3 => repeat (first | exact HR1.out | (with_reducible refine Kd.C_alloc ?_ _) | (with_reducible refine Kd.C_drewN ?_ _) | (with_reducible refine Kd.C_drew ?_))); (case side4 => exact HC1.out); rintro e w12 ⟨rfl, hb⟩; refine ⟨_, rfl, ?_⟩; have n0_ := Aside0.mk (below_step (by repeat (first | (with_reducible first | exact HB.out | apply below_alloc | apply pw_below_drewN | apply below_drew1) | exact HB.out | exact Below.refl _ _)) hb); clear HB; have HB := n0_; clear n0_; (try clear hb); (try clear hb2); (try clear hk); (try clear hi)))
  go_ret2
  exact ⟨by first | rfl | (simp [errW_none, errW_some] <;> rfl) | (simp [*, errW_none, errW_some] <;> rfl), by repeat (first | (with_reducible first | exact HB.out | apply below_alloc | apply pw_below_drewN | apply below_drew1) | exact HB.out | exact Below.refl _ _)⟩

end Go.Proofs.YtldjbgonlbmeaaaDoor.PR
end
