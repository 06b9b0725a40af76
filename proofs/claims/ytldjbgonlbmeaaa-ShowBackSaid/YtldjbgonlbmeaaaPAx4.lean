-- Machine-made walks, written for this claim by a program of this session (plug.py).
import Derived.Test.YtldjbgonlbmeaaaPAx0
namespace Go.Proofs.Ytldjbgonlbmeaaa.PA
open Go.RowKit Go.Proofs.YtldjbgonlbmeaaaW.PrintWords Go.Proofs.YtldjbgonlbmeaaaW.PrintLast Go.Proofs.YtldjbgonlbmeaaaW.PrintMore
attribute [local go_sem] max2_int min2_int max_two min_two max_three min_three max_four min_four   -- for this text's walks alone
set_option linter.unusedVariables false
set_option linter.unusedSimpArgs false

mutual
def reticuleref07_Parse.l0 : Nat → List (S61) → List (S33) → List Int → List Int → Int → Option ((List (S33)) × List Int × Int × Int)
 | 0, _, _, _, _, _ => none
 | k + 1, x0, x6, x7, x8, x9 => if x9 < (x0.length : Int) then (if 0 ≤ x9 then (if ((rd_T61 x0 x9).f0) = 2 then (if (x8.length : Int) = 0 then (some (([] : List (S33)), ([] : List Int), (rd_T61 x0 x9).f3, 8)) else ((some (([] : List Int) : List Int)).bind fun y131 => (if 0 ≤ (wrap64 ((x8.length : Int) - 1)) then (if (wrap64 ((x8.length : Int) - 1)) ≤ (x8.length : Int) then ((some (x8.take ((wrap64 ((x8.length : Int) - 1)) : Int).toNat : List Int)).bind fun y134 => (if y131.length + y134.length < 17592186044416 then (reticuleref07_Parse.l0 k x0 x6 x7 (y131 ++ y134) (wrap64 (x9 + 1))) else (none))) else (none)) else (none)))) else (if ((rd_T61 x0 x9).f0) = 1 then (reticuleref07_Parse.j1 k x0 x6 x7 x8 x9 false ((rd_T61 x0 x9).f0) ((rd_T61 x0 x9).f1) ((rd_T61 x0 x9).f2) ((rd_T61 x0 x9).f3)) else (if ((rd_T61 x0 x9).f0) = 3 then (reticuleref07_Parse.j1 k x0 x6 x7 x8 x9 false ((rd_T61 x0 x9).f0) ((rd_T61 x0 x9).f1) ((rd_T61 x0 x9).f2) ((rd_T61 x0 x9).f3)) else (reticuleref07_Parse.j1 k x0 x6 x7 x8 x9 (((rd_T61 x0 x9).f0) != 4) ((rd_T61 x0 x9).f0) ((rd_T61 x0 x9).f1) ((rd_T61 x0 x9).f2) ((rd_T61 x0 x9).f3))))) else (none)) else (if (x8.length : Int) > 0 then (if 0 ≤ (wrap64 ((x8.length : Int) - 1)) then (if (wrap64 ((x8.length : Int) - 1)) < (x8.length : Int) then (if 0 ≤ (rd x8 (wrap64 ((x8.length : Int) - 1))) then (if (rd x8 (wrap64 ((x8.length : Int) - 1))) < (x6.length : Int) then (some (([] : List (S33)), ([] : List Int), (rd_T33 x6 (rd x8 (wrap64 ((x8.length : Int) - 1)))).f4, 8)) else (none)) else (none)) else (none)) else (none)) else (some (x6, x7, 0, 0)))
def reticuleref07_Parse.j1 : Nat → List (S61) → List (S33) → List Int → List Int → Int → Bool → Int → ByteArray → Int → Int → Option ((List (S33)) × List Int × Int × Int)
 | 0, _, _, _, _, _, _, _, _, _, _ => none
 | k + 1, x0, x6, x7, x8, x9, x51, x131000, x131001, x131002, x131003 => if x51 = true then (reticuleref07_Parse.l0 k x0 x6 x7 x8 (wrap64 (x9 + 1))) else (if x131000 = 1 then (if (x8.length : Int) ≥ 12 then (reticuleref07_Parse.j2 k x0 x6 x7 x8 x9 true x131000 x131001 x131002 x131003) else (reticuleref07_Parse.j2 k x0 x6 x7 x8 x9 (decide ((x6.length : Int) ≥ 400)) x131000 x131001 x131002 x131003)) else (reticuleref07_Parse.j2 k x0 x6 x7 x8 x9 (decide ((x6.length : Int) ≥ 400)) x131000 x131001 x131002 x131003))
def reticuleref07_Parse.j2 : Nat → List (S61) → List (S33) → List Int → List Int → Int → Bool → Int → ByteArray → Int → Int → Option ((List (S33)) × List Int × Int × Int)
 | 0, _, _, _, _, _, _, _, _, _, _ => none
 | k + 1, x0, x6, x7, x8, x9, x64, x131000, x131001, x131002, x131003 => if x64 = true then (some (([] : List (S33)), ([] : List Int), x131003, 4)) else (if x131000 = 3 then (reticuleref07_Parse.j3 k x0 x6 x7 x8 x9 x131000 x131001 x131002 x131003 x131000 x131001 0 x131003) else (if x131000 = 4 then (reticuleref07_Parse.j3 k x0 x6 x7 x8 x9 x131000 x131001 x131002 x131003 x131000 (⟨#[]⟩ : ByteArray) x131002 x131003) else (reticuleref07_Parse.j3 k x0 x6 x7 x8 x9 x131000 x131001 x131002 x131003 x131000 (⟨#[]⟩ : ByteArray) 0 x131003)))
def reticuleref07_Parse.j3 : Nat → List (S61) → List (S33) → List Int → List Int → Int → Int → ByteArray → Int → Int → Int → ByteArray → Int → Int → Option ((List (S33)) × List Int × Int × Int)
 | 0, _, _, _, _, _, _, _, _, _, _, _, _, _ => none
 | k + 1, x0, x6, x7, x8, x9, x131000, x131001, x131002, x131003, x142000, x142001, x142002, x142004 => if x6.length < 2199023255552 then ((some (x6 ++ [(⟨x142000, x142001, x142002, ([] : List Int), x142004⟩ : S33)] : List (S33))).bind fun y142 => (if (x8.length : Int) = 0 then (if x7.length < 17592186044416 then ((some (x7 ++ [(x6.length : Int)] : List Int)).bind fun y145 => (if x131000 = 1 then ((some (([] : List Int) : List Int)).bind fun y148 => (if y148.length + x8.length < 17592186044416 then ((some (y148 ++ x8 : List Int)).bind fun y151 => (if y151.length < 17592186044416 then (reticuleref07_Parse.l0 k x0 y142 y145 (y151 ++ [(x6.length : Int)]) (wrap64 (x9 + 1))) else (none))) else (none))) else (reticuleref07_Parse.l0 k x0 y142 y145 x8 (wrap64 (x9 + 1))))) else (none)) else (if 0 ≤ (wrap64 ((x8.length : Int) - 1)) then (if (wrap64 ((x8.length : Int) - 1)) < (x8.length : Int) then ((some (([] : List Int) : List Int)).bind fun y158 => (if 0 ≤ (rd x8 (wrap64 ((x8.length : Int) - 1))) then (if (rd x8 (wrap64 ((x8.length : Int) - 1))) < (y142.length : Int) then (if y158.length + ((rd_T33 y142 (rd x8 (wrap64 ((x8.length : Int) - 1)))).f3).length < 17592186044416 then ((some (y158 ++ ((rd_T33 y142 (rd x8 (wrap64 ((x8.length : Int) - 1)))).f3) : List Int)).bind fun y162 => (if y162.length < 17592186044416 then ((some (y142.set ((rd x8 (wrap64 ((x8.length : Int) - 1))) : Int).toNat (⟨(rd_T33 y142 (rd x8 (wrap64 ((x8.length : Int) - 1)))).f0, (rd_T33 y142 (rd x8 (wrap64 ((x8.length : Int) - 1)))).f1, (rd_T33 y142 (rd x8 (wrap64 ((x8.length : Int) - 1)))).f2, (y162 ++ [(x6.length : Int)]), (rd_T33 y142 (rd x8 (wrap64 ((x8.length : Int) - 1)))).f4⟩ : S33) : List (S33))).bind fun y168 => (if x131000 = 1 then ((some (([] : List Int) : List Int)).bind fun y169 => (if y169.length + x8.length < 17592186044416 then ((some (y169 ++ x8 : List Int)).bind fun y172 => (if y172.length < 17592186044416 then (reticuleref07_Parse.l0 k x0 y168 x7 (y172 ++ [(x6.length : Int)]) (wrap64 (x9 + 1))) else (none))) else (none))) else (reticuleref07_Parse.l0 k x0 y168 x7 x8 (wrap64 (x9 + 1))))) else (none))) else (none)) else (none)) else (none))) else (none)) else (none)))) else (none)
end
def reticuleref07_Parse.f (k : Nat) (l0 : List (S61)) : Option ((List (S33)) × List Int × Int × Int) := reticuleref07_Parse.l0 k l0 ([] : List (S33)) ([] : List Int) ([] : List Int) 0
theorem reticuleref07_Parse.mono_l : ∀ k, (∀ y0 y1 y2 y3 y4, LeO (reticuleref07_Parse.l0 k y0 y1 y2 y3 y4) (reticuleref07_Parse.l0 (k + 1) y0 y1 y2 y3 y4)) ∧ (∀ y0 y1 y2 y3 y4 y5 y6 y7 y8 y9, LeO (reticuleref07_Parse.j1 k y0 y1 y2 y3 y4 y5 y6 y7 y8 y9) (reticuleref07_Parse.j1 (k + 1) y0 y1 y2 y3 y4 y5 y6 y7 y8 y9)) ∧ (∀ y0 y1 y2 y3 y4 y5 y6 y7 y8 y9, LeO (reticuleref07_Parse.j2 k y0 y1 y2 y3 y4 y5 y6 y7 y8 y9) (reticuleref07_Parse.j2 (k + 1) y0 y1 y2 y3 y4 y5 y6 y7 y8 y9)) ∧ (∀ y0 y1 y2 y3 y4 y5 y6 y7 y8 y9 y10 y11 y12, LeO (reticuleref07_Parse.j3 k y0 y1 y2 y3 y4 y5 y6 y7 y8 y9 y10 y11 y12) (reticuleref07_Parse.j3 (k + 1) y0 y1 y2 y3 y4 y5 y6 y7 y8 y9 y10 y11 y12))
 | 0 => ⟨fun _ _ _ _ _ r h => by simp [reticuleref07_Parse.l0] at h, fun _ _ _ _ _ _ _ _ _ _ r h => by simp [reticuleref07_Parse.j1] at h, fun _ _ _ _ _ _ _ _ _ _ r h => by simp [reticuleref07_Parse.j2] at h, fun _ _ _ _ _ _ _ _ _ _ _ _ _ r h => by simp [reticuleref07_Parse.j3] at h⟩
 | k + 1 => by
  obtain ⟨ih0, ih1, ih2, ih3⟩ := reticuleref07_Parse.mono_l k
  refine ⟨?_, ?_, ?_, ?_⟩
  ·intro y0 y1 y2 y3 y4
   unfold reticuleref07_Parse.l0
   repeat' first
   | (with_reducible exact ih0 _ _ _ _ _)
   | (with_reducible exact ih1 _ _ _ _ _ _ _ _ _ _)
   | (with_reducible exact ih2 _ _ _ _ _ _ _ _ _ _)
   | (with_reducible exact ih3 _ _ _ _ _ _ _ _ _ _ _ _ _)
   | (with_reducible exact LeO.refl _)
   | (with_reducible exact LeO.none _)
   | (with_reducible refine LeO.ite ?_ ?_)
   | (with_reducible refine LeO.bind ?_ (fun _ => ?_))
   | exact ih0 _ _ _ _ _
   | exact ih1 _ _ _ _ _ _ _ _ _ _
   | exact ih2 _ _ _ _ _ _ _ _ _ _
   | exact ih3 _ _ _ _ _ _ _ _ _ _ _ _ _
   | exact LeO.none _
   | refine LeO.ite ?_ ?_
   | refine LeO.bind ?_ (fun _ => ?_)
  ·intro y0 y1 y2 y3 y4 y5 y6 y7 y8 y9
   unfold reticuleref07_Parse.j1
   repeat' first
   | (with_reducible exact ih0 _ _ _ _ _)
   | (with_reducible exact ih1 _ _ _ _ _ _ _ _ _ _)
   | (with_reducible exact ih2 _ _ _ _ _ _ _ _ _ _)
   | (with_reducible exact ih3 _ _ _ _ _ _ _ _ _ _ _ _ _)
   | (with_reducible exact LeO.refl _)
   | (with_reducible exact LeO.none _)
   | (with_reducible refine LeO.ite ?_ ?_)
   | (with_reducible refine LeO.bind ?_ (fun _ => ?_))
   | exact ih0 _ _ _ _ _
   | exact ih1 _ _ _ _ _ _ _ _ _ _
   | exact ih2 _ _ _ _ _ _ _ _ _ _
   | exact ih3 _ _ _ _ _ _ _ _ _ _ _ _ _
   | exact LeO.none _
   | refine LeO.ite ?_ ?_
   | refine LeO.bind ?_ (fun _ => ?_)
  ·intro y0 y1 y2 y3 y4 y5 y6 y7 y8 y9
   unfold reticuleref07_Parse.j2
   repeat' first
   | (with_reducible exact ih0 _ _ _ _ _)
   | (with_reducible exact ih1 _ _ _ _ _ _ _ _ _ _)
   | (with_reducible exact ih2 _ _ _ _ _ _ _ _ _ _)
   | (with_reducible exact ih3 _ _ _ _ _ _ _ _ _ _ _ _ _)
   | (with_reducible exact LeO.refl _)
   | (with_reducible exact LeO.none _)
   | (with_reducible refine LeO.ite ?_ ?_)
   | (with_reducible refine LeO.bind ?_ (fun _ => ?_))
   | exact ih0 _ _ _ _ _
   | exact ih1 _ _ _ _ _ _ _ _ _ _
   | exact ih2 _ _ _ _ _ _ _ _ _ _
   | exact ih3 _ _ _ _ _ _ _ _ _ _ _ _ _
   | exact LeO.none _
   | refine LeO.ite ?_ ?_
   | refine LeO.bind ?_ (fun _ => ?_)
  ·intro y0 y1 y2 y3 y4 y5 y6 y7 y8 y9 y10 y11 y12
   unfold reticuleref07_Parse.j3
   repeat' first
   | (with_reducible exact ih0 _ _ _ _ _)
   | (with_reducible exact ih1 _ _ _ _ _ _ _ _ _ _)
   | (with_reducible exact ih2 _ _ _ _ _ _ _ _ _ _)
   | (with_reducible exact ih3 _ _ _ _ _ _ _ _ _ _ _ _ _)
   | (with_reducible exact LeO.refl _)
   | (with_reducible exact LeO.none _)
   | (with_reducible refine LeO.ite ?_ ?_)
   | (with_reducible refine LeO.bind ?_ (fun _ => ?_))
   | exact ih0 _ _ _ _ _
   | exact ih1 _ _ _ _ _ _ _ _ _ _
   | exact ih2 _ _ _ _ _ _ _ _ _ _
   | exact ih3 _ _ _ _ _ _ _ _ _ _ _ _ _
   | exact LeO.none _
   | refine LeO.ite ?_ ?_
   | refine LeO.bind ?_ (fun _ => ?_)
theorem reticuleref07_Parse.mono : ∀ a0 k, LeO (reticuleref07_Parse.f k a0) (reticuleref07_Parse.f (k + 1) a0) := by
 intro a0 k
 obtain ⟨ih0, ih1, ih2, ih3⟩ := reticuleref07_Parse.mono_l k
 unfold reticuleref07_Parse.f
 repeat' first
   | (with_reducible exact ih0 _ _ _ _ _)
   | (with_reducible exact ih1 _ _ _ _ _ _ _ _ _ _)
   | (with_reducible exact ih2 _ _ _ _ _ _ _ _ _ _)
   | (with_reducible exact ih3 _ _ _ _ _ _ _ _ _ _ _ _ _)
   | (with_reducible exact LeO.refl _)
   | (with_reducible exact LeO.none _)
   | (with_reducible refine LeO.ite ?_ ?_)
   | (with_reducible refine LeO.bind ?_ (fun _ => ?_))
   | exact ih0 _ _ _ _ _
   | exact ih1 _ _ _ _ _ _ _ _ _ _
   | exact ih2 _ _ _ _ _ _ _ _ _ _
   | exact ih3 _ _ _ _ _ _ _ _ _ _ _ _ _
   | exact LeO.none _
   | refine LeO.ite ?_ ?_
   | refine LeO.bind ?_ (fun _ => ?_)
set_option maxHeartbeats 8000000 in
set_option maxRecDepth 100000 in
theorem reticuleref07_Parse.calls (k : Nat) (A0 : Option Addr) (c0 : Nat) (l0 : List (S61)) (r1 : List (S33)) (r2 : List Int) (r3 : Int) (r4 : Int) (w : World) (hr0 : Kd.C k61 w A0 l0.length l0) (hc0 : l0.length ≤ c0) (h : reticuleref07_Parse.f k l0 = some (r1, r2, r3, r4)) :
  Calls Try.prog 12 #[.slice A0 l0.length c0] w fun e w' => ∃ v0_ v1_ : Value, e = .returned (.tuple #[v0_, v1_, .int .i64 r3, .int .i64 r4]) ∧ Kd.S k33 33 w' w.heap.size (fun k_ => some k_ ≠ (v1_ : Value).ownBlock) v0_ r1 ∧ Kd.R (Kd.int .i64) 3 w' w.heap.size (fun _ => True) v1_ r2 ∧ Below w.heap.size w w' := by
 have hu61 := Try.underlying61
 have hu33 := Try.underlying33
 have HR0 := Aside0.mk hr0
 have HC0 := Aside0.mk hc0
 clear hr0 hc0
 have HB := Aside0.mk (Below.refl w.heap.size w)
 have H : (reticuleref07_Parse.l0 k l0 ([] : List (S33)) ([] : List Int) ([] : List Int) 0) = some (r1, r2, r3, r4) := h
 clear h
 have H' := Aside0.mk H
 clear H
 go_enter Try.func12, Try.ntmps12
 go_wp2
 repeat (go_quiet (fail); try go_wp2)
 go_loopg [6, 7, 8, 9] k (fun kq v6 v7 v8 v9 w' => ∃ (x6_1 : List (S33)) (x7_1 : List Int) (x8_1 : List Int) (x9_1 : Int), v9 = .int .i64 x9_1 ∧ Aside0 (reticuleref07_Parse.l0 kq l0 x6_1 x7_1 x8_1 x9_1 = some (r1, r2, r3, r4)) ∧ Aside0 (kq ≤ k) ∧ Aside0 (Kd.S k33 33 w' w.heap.size (fun k_ => some k_ ≠ (v7 : Value).ownBlock ∧ some k_ ≠ (v8 : Value).ownBlock) v6 x6_1) ∧ Aside0 (Kd.R (Kd.int .i64) 3 w' w.heap.size (fun k_ => some k_ ≠ (v8 : Value).ownBlock) v7 x7_1) ∧ Aside0 (Kd.R (Kd.int .i64) 3 w' w.heap.size (fun k_ => some k_ ≠ (v7 : Value).ownBlock) v8 x8_1) ∧ Aside0 (Below w.heap.size w w'))
 case atStart => exact ⟨(([] : List (S33))), (([] : List Int)), (([] : List Int)), (0), (by first | rfl | (simp; done) | (simp [*]; done)), H', ⟨Nat.le_refl _⟩, ⟨by first | exact Kd.S_nil _ _ _ _ _ | exact Kd.N_nil _ _ _ _ _ | exact Kd.V_nil _ _ _ _ _ | exact Kd.Q_nil _ _ _ _ _ | exact Kd.R_nil _ _ _ _ _⟩, ⟨by first | exact Kd.R_nil _ _ _ _ _ | exact Kd.N_nil _ _ _ _ _ | exact Kd.V_nil _ _ _ _ _ | exact Kd.Q_nil _ _ _ _ _ | exact Kd.S_nil _ _ _ _ _⟩, ⟨by first | exact Kd.R_nil _ _ _ _ _ | exact Kd.N_nil _ _ _ _ _ | exact Kd.V_nil _ _ _ _ _ | exact Kd.Q_nil _ _ _ _ _ | exact Kd.S_nil _ _ _ _ _⟩, ⟨by repeat (first | (with_reducible first | exact HB.out | apply below_alloc | apply pw_below_drewN | apply below_drew1) | exact HB.out | exact Below.refl _ _)⟩⟩
 case round =>
  clear H'
  try clear c1
  obtain ⟨x6_1, x7_1, x8_1, x9_1, rfl, HA, HK1, HO_6, HO_7, HO_8, HB⟩ := hrel
  cases gk with
  | zero => exact absurd HA.out (by simp [reticuleref07_Parse.l0])
  | succ k1 =>
   have H := HA.out
   clear HA
   simp only [reticuleref07_Parse.l0] at H
   by_cases c2 : x9_1 < (l0.length : Int)
   ·rw [if_pos c2] at H
    have c2b0 : decide (x9_1 < (l0.length : Int)) = true := decide_eq_true c2
    clear c2
    by_cases c3 : 0 ≤ x9_1
    ·rw [if_pos c3] at H
     have c3b0 : decide (0 ≤ x9_1) = true := decide_eq_true c3
     clear c3
     by_cases c4 : ((rd_T61 l0 x9_1).f0) = 2
     ·rw [if_pos c4] at H
      have c4b0 : (((rd_T61 l0 x9_1).f0) == 2) = true := beq_iff_eq.mpr c4
      have c4b1 : (((rd_T61 l0 x9_1).f0) != 2) = false := bne_eq_false_iff_eq.mpr c4
      clear c4
      by_cases c5 : (x8_1.length : Int) = 0
      ·rw [if_pos c5] at H
       have c5b0 : ((x8_1.length : Int) == 0) = true := beq_iff_eq.mpr c5
       have c5b1 : ((x8_1.length : Int) != 0) = false := bne_eq_false_iff_eq.mpr c5
       clear c5
       simp only [Option.some.injEq, Prod.mk.injEq] at H
       obtain ⟨rfl, rfl, rfl, rfl⟩ := H
       have p129 : 0 ≤ (x9_1 : Int) := of_decide_eq_true (by first | (with_reducible assumption) | assumption)
       have q129 : x9_1 < (l0.length : Int) := of_decide_eq_true (by first | (with_reducible assumption) | assumption)
       obtain ⟨ad129, e129, hx129_0, hx129_1, hx129_2, hx129_3⟩ := at_T61 HR0.out x9_1 p129 q129
       cases e129
       replace hx129_0 := (HB.out.cell (World.block_lt_of_cell? w _ hx129_0)).trans hx129_0
       replace hx129_1 := (HB.out.cell (World.block_lt_of_cell? w _ hx129_1)).trans hx129_1
       replace hx129_2 := (HB.out.cell (World.block_lt_of_cell? w _ hx129_2)).trans hx129_2
       replace hx129_3 := (HB.out.cell (World.block_lt_of_cell? w _ hx129_3)).trans hx129_3
       replace p129 := eq_true p129
       replace q129 := eq_true q129
       go_wp2_with (first | ((with_reducible refine gate_dst (N := 10) rfl ?_); (try (refine gate_guard (by rfl) ?_; dsimp only)); refine box_event ?hg (N := 10) ?hd (cs := #[.int .u8 0, .string (⟨#[]⟩ : ByteArray), .int .i64 0, .int .i64 0]) (t := 61) ?hr ?_; (case hd => rfl); (case hg => rfl); (case hr => first | (go_simp; done) | (go_simp; rfl)); intro gb130 hg w6 hbox hb; have n0_ := Aside0.mk (Kd.S_below (by (with_reducible repeat (first | apply Kd.S_alloc | apply Kd.S_drewN | apply Kd.S_drew)); exact HO_6.out) hb); have n1_ := Aside0.mk (Kd.R_below (by (with_reducible repeat (first | apply Kd.R_alloc | apply Kd.R_drewN | apply Kd.R_drew)); exact HO_7.out) hb); have n2_ := Aside0.mk (Kd.R_below (by (with_reducible repeat (first | apply Kd.R_alloc | apply Kd.R_drewN | apply Kd.R_drew)); exact HO_8.out) hb); have n3_ := Aside0.mk (below_step (by repeat (first | (with_reducible first | exact HB.out | apply below_alloc | apply pw_below_drewN | apply below_drew1) | exact HB.out | exact Below.refl _ _)) hb); have n4_ := Aside0.mk (hbox); have n5_ := Aside0.mk ((by rw [hg]; exact (below_size (by repeat (first | (with_reducible first | exact HB.out | apply below_alloc | apply pw_below_drewN | apply below_drew1) | exact HB.out | exact Below.refl _ _))) : w.heap.size ≤ gb130)); have n6_ := Aside0.mk ((by rw [hg]; exact (below_size (by repeat (first | (with_reducible first | exact HB.out | apply below_alloc | apply pw_below_drewN | apply below_drew1) | exact HB.out | exact Below.refl _ _))) : w.heap.size ≤ gb130)); clear HO_6; clear HO_7; clear HO_8; clear HB; have HO_6 := n0_; have HO_7 := n1_; have HO_8 := n2_; have HB := n3_; have BK130 := n4_; have GW130 := n5_; have GE130 := n6_; clear n0_ n1_ n2_ n3_ n4_ n5_ n6_; clear hb hbox hg; have hcz7_0 : w6.cell? ⟨gb130, 0, none⟩ = some (.int .u8 0) := (blk_cell BK130.out 0).trans rfl; have hcz7_1 : w6.cell? ⟨gb130, 1, none⟩ = some (.string (⟨#[]⟩ : ByteArray)) := (blk_cell BK130.out 1).trans rfl; have hcz7_2 : w6.cell? ⟨gb130, 2, none⟩ = some (.int .i64 0) := (blk_cell BK130.out 2).trans rfl; have hcz7_3 : w6.cell? ⟨gb130, 3, none⟩ = some (.int .i64 0) := (blk_cell BK130.out 3).trans rfl; have hfz7_0 := blk_frozen BK130.out 0; have hfz7_1 := blk_frozen BK130.out 1; have hfz7_2 := blk_frozen BK130.out 2; have hfz7_3 := blk_frozen BK130.out 3; obtain ⟨Ao8, co8, eo8⟩ := Kd.R_slice HO_8.out; subst eo8))
       repeat (go_quiet (fail); try go_wp2)
       refine bodyPost_ret (results_list (rs := [.tmp 2, .tmp 3, .tmp 4, .tmp 5]) rfl (by simp) (.tmp (.tmp (.tmp (.tmp .nil))))) rfl ?_
       exact ⟨_, _, by first | rfl | (simp [errW_none, errW_some] <;> rfl) | (simp [*, errW_none, errW_some] <;> rfl), by first | exact Kd.S_nil _ _ _ _ _ | exact Kd.N_nil _ _ _ _ _ | exact Kd.V_nil _ _ _ _ _ | exact Kd.Q_nil _ _ _ _ _ | exact Kd.R_nil _ _ _ _ _, by first | exact Kd.R_nil _ _ _ _ _ | exact Kd.N_nil _ _ _ _ _ | exact Kd.V_nil _ _ _ _ _ | exact Kd.Q_nil _ _ _ _ _ | exact Kd.S_nil _ _ _ _ _, by repeat (first | (with_reducible first | exact HB.out | apply below_alloc | apply pw_below_drewN | apply below_drew1 | refine below_set ?_ GE130.out) | exact HB.out)⟩
      ·rw [if_neg c5] at H
       have c5b0 : ((x8_1.length : Int) == 0) = false := beq_eq_false_iff_ne.mpr c5
       have c5b1 : ((x8_1.length : Int) != 0) = true := bne_iff_ne.mpr c5
       have c5b2 : ¬ (x8_1 = []) := fun h_ => c5 (by rw [h_]; rfl)
       obtain ⟨y131, hy131⟩ : ∃ y_ : List Int, y_ = (([] : List Int)) := ⟨_, rfl⟩
       replace H : (if 0 ≤ (wrap64 ((x8_1.length : Int) - 1)) then (if (wrap64 ((x8_1.length : Int) - 1)) ≤ (x8_1.length : Int) then ((some (x8_1.take ((wrap64 ((x8_1.length : Int) - 1)) : Int).toNat : List Int)).bind fun y134 => (if y131.length + y134.length < 17592186044416 then (reticuleref07_Parse.l0 k1 l0 x6_1 x7_1 (y131 ++ y134) (wrap64 (x9_1 + 1))) else (none))) else (none)) else (none)) = some (r1, r2, r3, r4) := by first | (rw [hy131]; with_reducible exact H) | (have H2_ := (Option.bind_some _ _).symm.trans H; rw [hy131]; with_reducible exact H2_) | (have H2_ := (Option.bind_some _ _).symm.trans H; with_reducible exact H2_) | with_reducible exact H | (rw [hy131]; exact H) | exact H
       have Ny131 := Aside0.mk hy131
       clear hy131
       obtain ⟨ji9, hji9⟩ : ∃ j_ : Int, (wrap64 ((x8_1.length : Int) - 1)) = j_ := ⟨_, rfl⟩
       replace H : (if 0 ≤ (ji9) then (if (ji9) ≤ (x8_1.length : Int) then ((some (x8_1.take ((ji9) : Int).toNat : List Int)).bind fun y134 => (if y131.length + y134.length < 17592186044416 then (reticuleref07_Parse.l0 k1 l0 x6_1 x7_1 (y131 ++ y134) (wrap64 (x9_1 + 1))) else (none))) else (none)) else (none)) = some (r1, r2, r3, r4) := by first | (rw [hji9] at H; exact H) | (simp only [hji9] at H ⊢; exact H)
       have hji9w : (IntKind.i64.wrap ((x8_1.length : Int) - 1)) = ji9 := (i64_w _).trans hji9
       by_cases c10 : 0 ≤ (ji9)
       ·rw [if_pos c10] at H
        have c10b0 := eq_true c10
        have c10b1 : decide (0 ≤ (ji9)) = true := decide_eq_true c10
        clear c10
        by_cases c11 : (ji9) ≤ (x8_1.length : Int)
        ·rw [if_pos c11] at H
         have c11b0 := eq_true c11
         have c11b1 : decide ((ji9) ≤ (x8_1.length : Int)) = true := decide_eq_true c11
         clear c11
         obtain ⟨y134, hy134⟩ : ∃ y_ : List Int, y_ = (x8_1.take ((ji9) : Int).toNat) := ⟨_, rfl⟩
         replace H : (if y131.length + y134.length < 17592186044416 then (reticuleref07_Parse.l0 k1 l0 x6_1 x7_1 (y131 ++ y134) (wrap64 (x9_1 + 1))) else (none)) = some (r1, r2, r3, r4) := by first | (rw [hy134]; with_reducible exact H) | (have H2_ := (Option.bind_some _ _).symm.trans H; rw [hy134]; with_reducible exact H2_) | (have H2_ := (Option.bind_some _ _).symm.trans H; with_reducible exact H2_) | with_reducible exact H | (rw [hy134]; exact H) | exact H
         have Ny134 := Aside0.mk hy134
         clear hy134
         by_cases c12 : y131.length + y134.length < 17592186044416
         ·rw [if_pos c12] at H
          have LMc12 := Aside0.mk c12
          clear c12
          obtain ⟨y138, hy138⟩ : ∃ y_ : List Int, y_ = (y131 ++ y134) := ⟨_, rfl⟩
          replace H : (reticuleref07_Parse.l0 k1 l0 x6_1 x7_1 y138 (wrap64 (x9_1 + 1))) = some (r1, r2, r3, r4) := by first | (rw [hy138]; with_reducible exact H) | (have H2_ := (Option.bind_some _ _).symm.trans H; rw [hy138]; with_reducible exact H2_) | (have H2_ := (Option.bind_some _ _).symm.trans H; with_reducible exact H2_) | with_reducible exact H | (rw [hy138]; exact H) | exact H
          have Ny138 := Aside0.mk hy138
          clear hy138
          have H' := Aside0.mk H
          clear H
          have p129 : 0 ≤ (x9_1 : Int) := of_decide_eq_true (by first | (with_reducible assumption) | assumption)
          have q129 : x9_1 < (l0.length : Int) := of_decide_eq_true (by first | (with_reducible assumption) | assumption)
          obtain ⟨ad129, e129, hx129_0, hx129_1, hx129_2, hx129_3⟩ := at_T61 HR0.out x9_1 p129 q129
          cases e129
          replace hx129_0 := (HB.out.cell (World.block_lt_of_cell? w _ hx129_0)).trans hx129_0
          replace hx129_1 := (HB.out.cell (World.block_lt_of_cell? w _ hx129_1)).trans hx129_1
          replace hx129_2 := (HB.out.cell (World.block_lt_of_cell? w _ hx129_2)).trans hx129_2
          replace hx129_3 := (HB.out.cell (World.block_lt_of_cell? w _ hx129_3)).trans hx129_3
          replace p129 := eq_true p129
          replace q129 := eq_true q129
          go_wp2_with (first | ((with_reducible refine gate_dst (N := 10) rfl ?_); (try (refine gate_guard (by rfl) ?_; dsimp only)); refine box_event ?hg (N := 10) ?hd (cs := #[.int .u8 0, .string (⟨#[]⟩ : ByteArray), .int .i64 0, .int .i64 0]) (t := 61) ?hr ?_; (case hd => rfl); (case hg => rfl); (case hr => first | (go_simp; done) | (go_simp; rfl)); intro gb130 hg w13 hbox hb; have n0_ := Aside0.mk (Kd.S_below (by (with_reducible repeat (first | apply Kd.S_alloc | apply Kd.S_drewN | apply Kd.S_drew)); exact HO_6.out) hb); have n1_ := Aside0.mk (Kd.R_below (by (with_reducible repeat (first | apply Kd.R_alloc | apply Kd.R_drewN | apply Kd.R_drew)); exact HO_7.out) hb); have n2_ := Aside0.mk (Kd.R_below (by (with_reducible repeat (first | apply Kd.R_alloc | apply Kd.R_drewN | apply Kd.R_drew)); exact HO_8.out) hb); have n3_ := Aside0.mk (below_step (by repeat (first | (with_reducible first | exact HB.out | apply below_alloc | apply pw_below_drewN | apply below_drew1) | exact HB.out | exact Below.refl _ _)) hb); have n4_ := Aside0.mk (hbox); have n5_ := Aside0.mk ((by rw [hg]; exact (below_size (by repeat (first | (with_reducible first | exact HB.out | apply below_alloc | apply pw_below_drewN | apply below_drew1) | exact HB.out | exact Below.refl _ _))) : w.heap.size ≤ gb130)); have n6_ := Aside0.mk ((by rw [hg]; exact (below_size (by repeat (first | (with_reducible first | exact HB.out | apply below_alloc | apply pw_below_drewN | apply below_drew1) | exact HB.out | exact Below.refl _ _))) : w.heap.size ≤ gb130)); clear HO_6; clear HO_7; clear HO_8; clear HB; have HO_6 := n0_; have HO_7 := n1_; have HO_8 := n2_; have HB := n3_; have BK130 := n4_; have GW130 := n5_; have GE130 := n6_; clear n0_ n1_ n2_ n3_ n4_ n5_ n6_; clear hb hbox hg; have hcz14_0 : w13.cell? ⟨gb130, 0, none⟩ = some (.int .u8 0) := (blk_cell BK130.out 0).trans rfl; have hcz14_1 : w13.cell? ⟨gb130, 1, none⟩ = some (.string (⟨#[]⟩ : ByteArray)) := (blk_cell BK130.out 1).trans rfl; have hcz14_2 : w13.cell? ⟨gb130, 2, none⟩ = some (.int .i64 0) := (blk_cell BK130.out 2).trans rfl; have hcz14_3 : w13.cell? ⟨gb130, 3, none⟩ = some (.int .i64 0) := (blk_cell BK130.out 3).trans rfl; have hfz14_0 := blk_frozen BK130.out 0; have hfz14_1 := blk_frozen BK130.out 1; have hfz14_2 := blk_frozen BK130.out 2; have hfz14_3 := blk_frozen BK130.out 3; obtain ⟨Ao15, co15, eo15⟩ := Kd.R_slice HO_8.out; subst eo15) | ((with_reducible refine gate_dst (N := 32) rfl ?_); (try (refine gate_guard (by rfl) ?_; dsimp only)); refine Kd.R_lit (Kd.int .i64) _ 3 ?hg (N := 32) ?hd (xs := ([] : List Int)) (inner := []) (ok := fun _ => True) (okp := fun _ => True) ?hr ?hp (fun _ hk => hk) trivial (Below.refl _ _) (Nat.le_refl _) (by simp) ?_; (case hd => rfl); (case hg => rfl); (case hr => first | (go_simp; done) | (go_simp; rfl)); (case hp => exact (Reps.none _ _)); intro v132 w16 ho17 hb hg_ hnew_; clear hg_ hnew_; (first | rw [← Ny131.out] at ho17 | (simp only [Int.reduceToNat] at ho17; rw [← Ny131.out] at ho17)); have n0_ := Aside0.mk (Kd.S_elder' (by (with_reducible repeat (first | apply Kd.S_alloc | apply Kd.S_drewN | apply Kd.S_drew)); exact (Kd.S_mono (Kd.S_far (p := ⟨gb130, 3, none⟩) (Kd.S_far (p := ⟨gb130, 2, none⟩) (Kd.S_far (p := ⟨gb130, 1, none⟩) (Kd.S_far (p := ⟨gb130, 0, none⟩) (Kd.S_types HO_6.out BK130.out (by decide)) (fun _ hk => hk.2) (.int .u8 ((rd_T61 l0 x9_1).f0))) (fun _ hk => hk.2) (.string ((rd_T61 l0 x9_1).f1))) (fun _ hk => hk.2) (.int .i64 ((rd_T61 l0 x9_1).f2))) (fun _ hk => hk.2) (.int .i64 ((rd_T61 l0 x9_1).f3))) (fun _ h_ => h_.1))) (Kd.R_base ho17) hb); have n1_ := Aside0.mk (Kd.R_elder' (by (with_reducible repeat (first | apply Kd.R_alloc | apply Kd.R_drewN | apply Kd.R_drew)); exact (Kd.R_mono (Kd.R_far (p := ⟨gb130, 3, none⟩) (Kd.R_far (p := ⟨gb130, 2, none⟩) (Kd.R_far (p := ⟨gb130, 1, none⟩) (Kd.R_far (p := ⟨gb130, 0, none⟩) (Kd.R_types HO_7.out BK130.out (by decide)) (fun _ hk => hk.2) (.int .u8 ((rd_T61 l0 x9_1).f0))) (fun _ hk => hk.2) (.string ((rd_T61 l0 x9_1).f1))) (fun _ hk => hk.2) (.int .i64 ((rd_T61 l0 x9_1).f2))) (fun _ hk => hk.2) (.int .i64 ((rd_T61 l0 x9_1).f3))) (fun _ h_ => h_.1))) (Kd.R_base ho17) hb); have n2_ := Aside0.mk (Kd.R_elder' (by (with_reducible repeat (first | apply Kd.R_alloc | apply Kd.R_drewN | apply Kd.R_drew)); exact (Kd.R_mono (Kd.R_far (p := ⟨gb130, 3, none⟩) (Kd.R_far (p := ⟨gb130, 2, none⟩) (Kd.R_far (p := ⟨gb130, 1, none⟩) (Kd.R_far (p := ⟨gb130, 0, none⟩) (Kd.R_types HO_8.out BK130.out (by decide)) (fun _ hk => hk.2) (.int .u8 ((rd_T61 l0 x9_1).f0))) (fun _ hk => hk.2) (.string ((rd_T61 l0 x9_1).f1))) (fun _ hk => hk.2) (.int .i64 ((rd_T61 l0 x9_1).f2))) (fun _ hk => hk.2) (.int .i64 ((rd_T61 l0 x9_1).f3))) (fun _ h_ => h_.1))) (Kd.R_base ho17) hb); have n3_ := Aside0.mk (Kd.R_lower (Kd.R_new' (Kd.R_new' ho17 (Kd.R_lt (by (with_reducible repeat (first | apply Kd.R_alloc | apply Kd.R_drewN | apply Kd.R_drew)); exact (Kd.R_mono (Kd.R_far (p := ⟨gb130, 3, none⟩) (Kd.R_far (p := ⟨gb130, 2, none⟩) (Kd.R_far (p := ⟨gb130, 1, none⟩) (Kd.R_far (p := ⟨gb130, 0, none⟩) (Kd.R_types HO_7.out BK130.out (by decide)) (fun _ hk => hk.2) (.int .u8 ((rd_T61 l0 x9_1).f0))) (fun _ hk => hk.2) (.string ((rd_T61 l0 x9_1).f1))) (fun _ hk => hk.2) (.int .i64 ((rd_T61 l0 x9_1).f2))) (fun _ hk => hk.2) (.int .i64 ((rd_T61 l0 x9_1).f3))) (fun _ h_ => h_.1))))) (Kd.R_lt (by (with_reducible repeat (first | apply Kd.R_alloc | apply Kd.R_drewN | apply Kd.R_drew)); exact (Kd.R_mono (Kd.R_far (p := ⟨gb130, 3, none⟩) (Kd.R_far (p := ⟨gb130, 2, none⟩) (Kd.R_far (p := ⟨gb130, 1, none⟩) (Kd.R_far (p := ⟨gb130, 0, none⟩) (Kd.R_types HO_8.out BK130.out (by decide)) (fun _ hk => hk.2) (.int .u8 ((rd_T61 l0 x9_1).f0))) (fun _ hk => hk.2) (.string ((rd_T61 l0 x9_1).f1))) (fun _ hk => hk.2) (.int .i64 ((rd_T61 l0 x9_1).f2))) (fun _ hk => hk.2) (.int .i64 ((rd_T61 l0 x9_1).f3))) (fun _ h_ => h_.1))))) (below_size (by repeat (first | (with_reducible first | exact HB.out | apply below_alloc | apply pw_below_drewN | apply below_drew1 | refine below_set ?_ GE130.out) | exact HB.out)))); have n4_ := Aside0.mk (blk_below (g := gb130) (o := .cells #[.int .u8 ((rd_T61 l0 x9_1).f0), .string ((rd_T61 l0 x9_1).f1), .int .i64 ((rd_T61 l0 x9_1).f2), .int .i64 ((rd_T61 l0 x9_1).f3)] 61 (0, 0)) (by (with_reducible repeat (first | refine blk_drewN ?_ _ | refine blk_drew ?_ | refine blk_alloc ?_ _)); refine blk_put (cs := #[.int .u8 ((rd_T61 l0 x9_1).f0), .string ((rd_T61 l0 x9_1).f1), .int .i64 ((rd_T61 l0 x9_1).f2), .int .i64 0]) ?_ 3 _ rfl; (with_reducible repeat (first | refine blk_drewN ?_ _ | refine blk_drew ?_ | refine blk_alloc ?_ _)); refine blk_put (cs := #[.int .u8 ((rd_T61 l0 x9_1).f0), .string ((rd_T61 l0 x9_1).f1), .int .i64 0, .int .i64 0]) ?_ 2 _ rfl; (with_reducible repeat (first | refine blk_drewN ?_ _ | refine blk_drew ?_ | refine blk_alloc ?_ _)); refine blk_put (cs := #[.int .u8 ((rd_T61 l0 x9_1).f0), .string (⟨#[]⟩ : ByteArray), .int .i64 0, .int .i64 0]) ?_ 1 _ rfl; (with_reducible repeat (first | refine blk_drewN ?_ _ | refine blk_drew ?_ | refine blk_alloc ?_ _)); refine blk_put (cs := #[.int .u8 0, .string (⟨#[]⟩ : ByteArray), .int .i64 0, .int .i64 0]) ?_ 0 _ rfl; (with_reducible repeat (first | refine blk_drewN ?_ _ | refine blk_drew ?_ | refine blk_alloc ?_ _)); exact BK130.out) hb); have n5_ := Aside0.mk (below_step (by repeat (first | (with_reducible first | exact HB.out | apply below_alloc | apply pw_below_drewN | apply below_drew1 | refine below_set ?_ GE130.out) | exact HB.out)) hb); clear HO_6; clear HO_7; clear HO_8; clear BK130; clear HB; have HO_6 := n0_; have HO_7 := n1_; have HO_8 := n2_; have HO133 := n3_; have BK130 := n4_; have HB := n5_; clear n0_ n1_ n2_ n3_ n4_ n5_; clear hb ho17; have q18 : ((ji9) : Int) ≤ ((x8_1.length : Int) : Int) := of_decide_eq_true (by first | (with_reducible assumption) | assumption); obtain ⟨i018, hi018, _, hsz18, _⟩ := info_parts info3; have hroom18 : x8_1.length ≤ co15 := (Kd.R_reads' HO_8.out).2.1; have hC18 : Kd.C (Kd.int .i64) _ Ao15 x8_1.length x8_1 := (Kd.R_reads' HO_8.out).2.2; have hcut18 := cut_to (P := Try.prog) 23 3 .i64 Try.underlying23 hi018 Ao15 x8_1.length co15 (ji9) (of_decide_eq_true (by first | (with_reducible assumption) | assumption)) q18 hroom18; have hr18 := Kd.C_take (m := ((ji9) : Int).toNat) hC18 (by omega); have hy18 : y134.length = ((ji9) : Int).toNat := (by rw [Ny134.out, List.length_take]; omega); rw [← Ny134.out] at hr18; rw [← hy18] at hcut18; have HR137 := Aside0.mk hr18; have HC137 := Aside0.mk (show y134.length ≤ co15 from by omega); clear hr18 hC18 hroom18 hi018 hsz18; have KY18 := Aside0.mk hy18; clear hy18; have KL18 := Aside0.mk (show ((ji9) : Int).toNat ≤ x8_1.length from by omega); replace q18 := eq_true q18) | ((with_reducible refine gate_builtin (b := .append) (xs := #[.tmp 32, .tmp 37]) rfl ?_); (try (refine gate_guard (by rfl) ?_; dsimp only)); at_builtin; refine Kd.R_append_rows (Kd.int .i64) (w0 := w) w.heap.size rfl (.tmp 32) (.tmp 37) 23 3 (.int .i64 0) 8 rfl Try.underlying23 info3 rfl (by decide) (by omega) v132 y131 y134 _ _ _ (fun k_ => some k_ ≠ (u7 : Value).ownBlock ∧ some k_ ≠ (.slice Ao15 x8_1.length co15 : Value).ownBlock) (fun _ => False) rfl rfl ?aO ?aR (fun _ _ h => h) (fun _ h => h.elim) ?aF ?aB ?aS ?aL ?_; (case aR => repeat (first | exact (by repeat (first | (with_reducible exact HR137.out) | (with_reducible refine Kd.C_alloc ?_ _) | (with_reducible refine Kd.C_drewN ?_ _) | (with_reducible refine Kd.C_drew ?_) | exact HR137.out)) | (with_reducible refine Kd.C_alloc ?_ _) | (with_reducible refine Kd.C_drewN ?_ _) | (with_reducible refine Kd.C_drew ?_))); (case aB => exact (by repeat (first | (with_reducible first | exact HB.out | apply below_alloc | apply pw_below_drewN | apply below_drew1 | refine below_set ?_ GE130.out) | exact HB.out))); (case aF => exact (fun k_ hk => ⟨Kd.fresh' (Kd.R_lt (by (with_reducible repeat (first | apply Kd.R_alloc | apply Kd.R_drewN | apply Kd.R_drew)); exact HO_7.out)) k_ hk, Kd.fresh' (Kd.R_lt (by (with_reducible repeat (first | apply Kd.R_alloc | apply Kd.R_drewN | apply Kd.R_drew)); exact HO_8.out)) k_ hk⟩)); (case aO => exact (by (with_reducible repeat (first | apply Kd.R_alloc | apply Kd.R_drewN | apply Kd.R_drew)); exact Kd.R_mono HO133.out (fun _ hk => ⟨hk.1.2, hk.2⟩))); (case aS => exact (below_size (by repeat (first | (with_reducible first | exact HB.out | apply below_alloc | apply pw_below_drewN | apply below_drew1 | refine below_set ?_ GE130.out) | exact HB.out)))); (case aL => have := LMc12.out; omega); intro v139 w19 ho hb hg hat; rw [← Ny138.out] at ho; have n0_ := Aside0.mk (Kd.S_after (ok := (fun k_ => some k_ ≠ (u7 : Value).ownBlock ∧ some k_ ≠ (.slice Ao15 x8_1.length co15 : Value).ownBlock)) (by (with_reducible repeat (first | apply Kd.S_alloc | apply Kd.S_drewN | apply Kd.S_drew)); exact HO_6.out) hg hat); have n1_ := Aside0.mk (Kd.R_after (ok := (fun k_ => some k_ ≠ (.slice Ao15 x8_1.length co15 : Value).ownBlock)) (by (with_reducible repeat (first | apply Kd.R_alloc | apply Kd.R_drewN | apply Kd.R_drew)); exact HO_7.out) hg hat); have n2_ := Aside0.mk (Kd.R_after (ok := (fun k_ => some k_ ≠ (u7 : Value).ownBlock)) (by (with_reducible repeat (first | apply Kd.R_alloc | apply Kd.R_drewN | apply Kd.R_drew)); exact HO_8.out) hg hat); have n3_ := Aside0.mk (blk_grown (g := gb130) (o := .cells #[.int .u8 ((rd_T61 l0 x9_1).f0), .string ((rd_T61 l0 x9_1).f1), .int .i64 ((rd_T61 l0 x9_1).f2), .int .i64 ((rd_T61 l0 x9_1).f3)] 61 (0, 0)) (by (with_reducible repeat (first | refine blk_drewN ?_ _ | refine blk_drew ?_ | refine blk_alloc ?_ _)); exact BK130.out) hg (Kd.R_ne HO133.out BK130.out (by decide))); have n4_ := Aside0.mk (hb); have n5_ := Aside0.mk ((show Kd.C (Kd.int .i64) w19 Ao15 y134.length y134 from by rw [Ny134.out]; exact Kd.C_take (m := ((ji9) : Int).toNat) ((Kd.R_reads' (Kd.R_after (ok := (fun k_ => some k_ ≠ (u7 : Value).ownBlock)) (by (with_reducible repeat (first | apply Kd.R_alloc | apply Kd.R_drewN | apply Kd.R_drew)); exact HO_8.out) hg hat)).2.2) KL18.out)); have n6_ := Aside0.mk (ho); clear HO_6; clear HO_7; clear HO_8; clear BK130; clear HB; clear HR137; clear HO133; have HO_6 := n0_; have HO_7 := n1_; have HO_8 := n2_; have BK130 := n3_; have HB := n4_; have HR137 := n5_; have HO140 := n6_; clear n0_ n1_ n2_ n3_ n4_ n5_ n6_; clear ho hb hg hat))
          repeat (go_quiet (fail); try go_wp2)
          go_roundg k1
          case measure => have := HK1.out; omega
          case rel => exact ⟨(x6_1), (x7_1), (y138), (wrap64 (x9_1 + 1)), (by first | rfl | (simp; done) | (simp [*]; done)), H', ⟨by have := HK1.out; omega⟩, ⟨by (with_reducible repeat (first | apply Kd.S_alloc | apply Kd.S_drewN | apply Kd.S_drew)); exact Kd.S_mono HO_6.out (fun _ hk => ⟨hk.1.1, hk.2⟩)⟩, ⟨by (with_reducible repeat (first | apply Kd.R_alloc | apply Kd.R_drewN | apply Kd.R_drew)); exact Kd.R_mono HO_7.out (fun _ hk => hk.2)⟩, ⟨by (with_reducible repeat (first | apply Kd.R_alloc | apply Kd.R_drewN | apply Kd.R_drew)); exact Kd.R_mono HO140.out (fun _ hk => hk.1)⟩, ⟨by repeat (first | (with_reducible first | exact HB.out | apply below_alloc | apply pw_below_drewN | apply below_drew1 | refine below_set ?_ GE130.out) | exact HB.out)⟩⟩
         ·rw [if_neg c12] at H
          exact absurd H (by simp)
        ·rw [if_neg c11] at H
         exact absurd H (by simp)
       ·rw [if_neg c10] at H
        exact absurd H (by simp)
     ·rw [if_neg c4] at H
      have c4b0 : (((rd_T61 l0 x9_1).f0) == 2) = false := beq_eq_false_iff_ne.mpr c4
      have c4b1 : (((rd_T61 l0 x9_1).f0) != 2) = true := bne_iff_ne.mpr c4
      have HC20 := Aside0.mk H
      clear H
      have p129 : 0 ≤ (x9_1 : Int) := of_decide_eq_true (by first | (with_reducible assumption) | assumption)
      have q129 : x9_1 < (l0.length : Int) := of_decide_eq_true (by first | (with_reducible assumption) | assumption)
      obtain ⟨ad129, e129, hx129_0, hx129_1, hx129_2, hx129_3⟩ := at_T61 HR0.out x9_1 p129 q129
      cases e129
      replace hx129_0 := (HB.out.cell (World.block_lt_of_cell? w _ hx129_0)).trans hx129_0
      replace hx129_1 := (HB.out.cell (World.block_lt_of_cell? w _ hx129_1)).trans hx129_1
      replace hx129_2 := (HB.out.cell (World.block_lt_of_cell? w _ hx129_2)).trans hx129_2
      replace hx129_3 := (HB.out.cell (World.block_lt_of_cell? w _ hx129_3)).trans hx129_3
      replace p129 := eq_true p129
      replace q129 := eq_true q129
      go_upto_region 11 with (first | ((with_reducible refine gate_dst (N := 10) rfl ?_); (try (refine gate_guard (by rfl) ?_; dsimp only)); refine box_event ?hg (N := 10) ?hd (cs := #[.int .u8 0, .string (⟨#[]⟩ : ByteArray), .int .i64 0, .int .i64 0]) (t := 61) ?hr ?_; (case hd => rfl); (case hg => rfl); (case hr => first | (go_simp; done) | (go_simp; rfl)); intro gb130 hg w21 hbox hb; have n0_ := Aside0.mk (Kd.S_below (by (with_reducible repeat (first | apply Kd.S_alloc | apply Kd.S_drewN | apply Kd.S_drew)); exact HO_6.out) hb); have n1_ := Aside0.mk (Kd.R_below (by (with_reducible repeat (first | apply Kd.R_alloc | apply Kd.R_drewN | apply Kd.R_drew)); exact HO_7.out) hb); have n2_ := Aside0.mk (Kd.R_below (by (with_reducible repeat (first | apply Kd.R_alloc | apply Kd.R_drewN | apply Kd.R_drew)); exact HO_8.out) hb); have n3_ := Aside0.mk (below_step (by repeat (first | (with_reducible first | exact HB.out | apply below_alloc | apply pw_below_drewN | apply below_drew1) | exact HB.out | exact Below.refl _ _)) hb); have n4_ := Aside0.mk (hbox); have n5_ := Aside0.mk ((by rw [hg]; exact (below_size (by repeat (first | (with_reducible first | exact HB.out | apply below_alloc | apply pw_below_drewN | apply below_drew1) | exact HB.out | exact Below.refl _ _))) : w.heap.size ≤ gb130)); have n6_ := Aside0.mk ((by rw [hg]; exact (below_size (by repeat (first | (with_reducible first | exact HB.out | apply below_alloc | apply pw_below_drewN | apply below_drew1) | exact HB.out | exact Below.refl _ _))) : w.heap.size ≤ gb130)); clear HO_6; clear HO_7; clear HO_8; clear HB; have HO_6 := n0_; have HO_7 := n1_; have HO_8 := n2_; have HB := n3_; have BK130 := n4_; have GW130 := n5_; have GE130 := n6_; clear n0_ n1_ n2_ n3_ n4_ n5_ n6_; clear hb hbox hg; have hcz22_0 : w21.cell? ⟨gb130, 0, none⟩ = some (.int .u8 0) := (blk_cell BK130.out 0).trans rfl; have hcz22_1 : w21.cell? ⟨gb130, 1, none⟩ = some (.string (⟨#[]⟩ : ByteArray)) := (blk_cell BK130.out 1).trans rfl; have hcz22_2 : w21.cell? ⟨gb130, 2, none⟩ = some (.int .i64 0) := (blk_cell BK130.out 2).trans rfl; have hcz22_3 : w21.cell? ⟨gb130, 3, none⟩ = some (.int .i64 0) := (blk_cell BK130.out 3).trans rfl; have hfz22_0 := blk_frozen BK130.out 0; have hfz22_1 := blk_frozen BK130.out 1; have hfz22_2 := blk_frozen BK130.out 2; have hfz22_3 := blk_frozen BK130.out 3))
      repeat (go_quiet (fail); try go_wp2)
      (try simp only [Act.put, List.setIfInBounds_toArray, List.set_cons_zero, List.set_cons_succ])
      go_cut [51] (fun v51 wc => ∃ (kq : Nat) (x51_19 : Bool), v51 = .bool x51_19 ∧ Aside0 (reticuleref07_Parse.j1 kq l0 x6_1 x7_1 x8_1 x9_1 x51_19 ((rd_T61 l0 x9_1).f0) ((rd_T61 l0 x9_1).f1) ((rd_T61 l0 x9_1).f2) ((rd_T61 l0 x9_1).f3) = some (r1, r2, r3, r4)) ∧ Aside0 (kq ≤ k1) ∧ Aside0 (Kd.S k33 33 wc w.heap.size (fun k_ => some k_ ≠ (u7 : Value).ownBlock ∧ some k_ ≠ (u8 : Value).ownBlock) u6 x6_1) ∧ Aside0 (Kd.R (Kd.int .i64) 3 wc w.heap.size (fun k_ => some k_ ≠ (u8 : Value).ownBlock) u7 x7_1) ∧ Aside0 (Kd.R (Kd.int .i64) 3 wc w.heap.size (fun k_ => some k_ ≠ (u7 : Value).ownBlock) u8 x8_1) ∧ Aside0 (wc.heap[gb130]? = some (.cells #[.int .u8 ((rd_T61 l0 x9_1).f0), .string ((rd_T61 l0 x9_1).f1), .int .i64 ((rd_T61 l0 x9_1).f2), .int .i64 ((rd_T61 l0 x9_1).f3)] 61 (0, 0))) ∧ Aside0 (Below w.heap.size w wc))
      case first =>
       have H := HC20.out
       clear HC20
       by_cases c23 : ((rd_T61 l0 x9_1).f0) = 1
       ·rw [if_pos c23] at H
        have c23b0 : (((rd_T61 l0 x9_1).f0) == 1) = true := beq_iff_eq.mpr c23
        have c23b1 : (((rd_T61 l0 x9_1).f0) != 1) = false := bne_eq_false_iff_eq.mpr c23
        clear c23
        (first | rw [c23b0] | (simp only [i64_w, i32_w]; rw [c23b0]) | skip)
        have H' := Aside0.mk H
        clear H
        have hcz24_0 : w21.cell? ⟨gb130, 0, none⟩ = some (.int .u8 0) := (blk_cell BK130.out 0).trans rfl
        have hcz24_1 : w21.cell? ⟨gb130, 1, none⟩ = some (.string (⟨#[]⟩ : ByteArray)) := (blk_cell BK130.out 1).trans rfl
        have hcz24_2 : w21.cell? ⟨gb130, 2, none⟩ = some (.int .i64 0) := (blk_cell BK130.out 2).trans rfl
        have hcz24_3 : w21.cell? ⟨gb130, 3, none⟩ = some (.int .i64 0) := (blk_cell BK130.out 3).trans rfl
        have hfz24_0 := blk_frozen BK130.out 0
        have hfz24_1 := blk_frozen BK130.out 1
        have hfz24_2 := blk_frozen BK130.out 2
        have hfz24_3 := blk_frozen BK130.out 3
        go_wp2
        repeat (go_quiet (fail); try go_wp2)
        go_meet
        case rel => exact ⟨_, (false), (by first | rfl | (simp; done) | (simp [*]; done)), H', ⟨by have := HK1.out; first | omega | exact Nat.le_refl _⟩, ⟨by (with_reducible repeat (first | apply Kd.S_alloc | apply Kd.S_drewN | apply Kd.S_drew)); exact Kd.S_mono (Kd.S_far (p := ⟨gb130, 3, none⟩) (Kd.S_far (p := ⟨gb130, 2, none⟩) (Kd.S_far (p := ⟨gb130, 1, none⟩) (Kd.S_far (p := ⟨gb130, 0, none⟩) (Kd.S_types HO_6.out BK130.out (by decide)) (fun _ hk => hk.2) (.int .u8 ((rd_T61 l0 x9_1).f0))) (fun _ hk => hk.2) (.string ((rd_T61 l0 x9_1).f1))) (fun _ hk => hk.2) (.int .i64 ((rd_T61 l0 x9_1).f2))) (fun _ hk => hk.2) (.int .i64 ((rd_T61 l0 x9_1).f3))) (fun _ hk => ⟨hk.1.1, hk.1.2⟩)⟩, ⟨by (with_reducible repeat (first | apply Kd.R_alloc | apply Kd.R_drewN | apply Kd.R_drew)); exact Kd.R_mono (Kd.R_far (p := ⟨gb130, 3, none⟩) (Kd.R_far (p := ⟨gb130, 2, none⟩) (Kd.R_far (p := ⟨gb130, 1, none⟩) (Kd.R_far (p := ⟨gb130, 0, none⟩) (Kd.R_types HO_7.out BK130.out (by decide)) (fun _ hk => hk.2) (.int .u8 ((rd_T61 l0 x9_1).f0))) (fun _ hk => hk.2) (.string ((rd_T61 l0 x9_1).f1))) (fun _ hk => hk.2) (.int .i64 ((rd_T61 l0 x9_1).f2))) (fun _ hk => hk.2) (.int .i64 ((rd_T61 l0 x9_1).f3))) (fun _ hk => hk.1)⟩, ⟨by (with_reducible repeat (first | apply Kd.R_alloc | apply Kd.R_drewN | apply Kd.R_drew)); exact Kd.R_mono (Kd.R_far (p := ⟨gb130, 3, none⟩) (Kd.R_far (p := ⟨gb130, 2, none⟩) (Kd.R_far (p := ⟨gb130, 1, none⟩) (Kd.R_far (p := ⟨gb130, 0, none⟩) (Kd.R_types HO_8.out BK130.out (by decide)) (fun _ hk => hk.2) (.int .u8 ((rd_T61 l0 x9_1).f0))) (fun _ hk => hk.2) (.string ((rd_T61 l0 x9_1).f1))) (fun _ hk => hk.2) (.int .i64 ((rd_T61 l0 x9_1).f2))) (fun _ hk => hk.2) (.int .i64 ((rd_T61 l0 x9_1).f3))) (fun _ hk => hk.1)⟩, ⟨by (with_reducible repeat (first | refine blk_drewN ?_ _ | refine blk_drew ?_ | refine blk_alloc ?_ _)); refine blk_put (cs := #[.int .u8 ((rd_T61 l0 x9_1).f0), .string ((rd_T61 l0 x9_1).f1), .int .i64 ((rd_T61 l0 x9_1).f2), .int .i64 0]) ?_ 3 _ rfl; (with_reducible repeat (first | refine blk_drewN ?_ _ | refine blk_drew ?_ | refine blk_alloc ?_ _)); refine blk_put (cs := #[.int .u8 ((rd_T61 l0 x9_1).f0), .string ((rd_T61 l0 x9_1).f1), .int .i64 0, .int .i64 0]) ?_ 2 _ rfl; (with_reducible repeat (first | refine blk_drewN ?_ _ | refine blk_drew ?_ | refine blk_alloc ?_ _)); refine blk_put (cs := #[.int .u8 ((rd_T61 l0 x9_1).f0), .string (⟨#[]⟩ : ByteArray), .int .i64 0, .int .i64 0]) ?_ 1 _ rfl; (with_reducible repeat (first | refine blk_drewN ?_ _ | refine blk_drew ?_ | refine blk_alloc ?_ _)); refine blk_put (cs := #[.int .u8 0, .string (⟨#[]⟩ : ByteArray), .int .i64 0, .int .i64 0]) ?_ 0 _ rfl; (with_reducible repeat (first | refine blk_drewN ?_ _ | refine blk_drew ?_ | refine blk_alloc ?_ _)); exact BK130.out⟩, ⟨by repeat (first | (with_reducible first | exact HB.out | apply below_alloc | apply pw_below_drewN | apply below_drew1 | refine below_set ?_ GE130.out) | exact HB.out)⟩⟩
       ·rw [if_neg c23] at H
        have c23b0 : (((rd_T61 l0 x9_1).f0) == 1) = false := beq_eq_false_iff_ne.mpr c23
        have c23b1 : (((rd_T61 l0 x9_1).f0) != 1) = true := bne_iff_ne.mpr c23
        (first | rw [c23b0] | (simp only [i64_w, i32_w]; rw [c23b0]) | skip)
        by_cases c25 : ((rd_T61 l0 x9_1).f0) = 3
        ·rw [if_pos c25] at H
         have c25b0 : (((rd_T61 l0 x9_1).f0) == 3) = true := beq_iff_eq.mpr c25
         have c25b1 : (((rd_T61 l0 x9_1).f0) != 3) = false := bne_eq_false_iff_eq.mpr c25
         clear c25
         have H' := Aside0.mk H
         clear H
         have hcz26_0 : w21.cell? ⟨gb130, 0, none⟩ = some (.int .u8 0) := (blk_cell BK130.out 0).trans rfl
         have hcz26_1 : w21.cell? ⟨gb130, 1, none⟩ = some (.string (⟨#[]⟩ : ByteArray)) := (blk_cell BK130.out 1).trans rfl
         have hcz26_2 : w21.cell? ⟨gb130, 2, none⟩ = some (.int .i64 0) := (blk_cell BK130.out 2).trans rfl
         have hcz26_3 : w21.cell? ⟨gb130, 3, none⟩ = some (.int .i64 0) := (blk_cell BK130.out 3).trans rfl
         have hfz26_0 := blk_frozen BK130.out 0
         have hfz26_1 := blk_frozen BK130.out 1
         have hfz26_2 := blk_frozen BK130.out 2
         have hfz26_3 := blk_frozen BK130.out 3
         go_wp2
         repeat (go_quiet (fail); try go_wp2)
         go_meet
         case rel => exact ⟨_, (false), (by first | rfl | (simp; done) | (simp [*]; done)), H', ⟨by have := HK1.out; first | omega | exact Nat.le_refl _⟩, ⟨by (with_reducible repeat (first | apply Kd.S_alloc | apply Kd.S_drewN | apply Kd.S_drew)); exact Kd.S_mono (Kd.S_far (p := ⟨gb130, 3, none⟩) (Kd.S_far (p := ⟨gb130, 2, none⟩) (Kd.S_far (p := ⟨gb130, 1, none⟩) (Kd.S_far (p := ⟨gb130, 0, none⟩) (Kd.S_types HO_6.out BK130.out (by decide)) (fun _ hk => hk.2) (.int .u8 ((rd_T61 l0 x9_1).f0))) (fun _ hk => hk.2) (.string ((rd_T61 l0 x9_1).f1))) (fun _ hk => hk.2) (.int .i64 ((rd_T61 l0 x9_1).f2))) (fun _ hk => hk.2) (.int .i64 ((rd_T61 l0 x9_1).f3))) (fun _ hk => ⟨hk.1.1, hk.1.2⟩)⟩, ⟨by (with_reducible repeat (first | apply Kd.R_alloc | apply Kd.R_drewN | apply Kd.R_drew)); exact Kd.R_mono (Kd.R_far (p := ⟨gb130, 3, none⟩) (Kd.R_far (p := ⟨gb130, 2, none⟩) (Kd.R_far (p := ⟨gb130, 1, none⟩) (Kd.R_far (p := ⟨gb130, 0, none⟩) (Kd.R_types HO_7.out BK130.out (by decide)) (fun _ hk => hk.2) (.int .u8 ((rd_T61 l0 x9_1).f0))) (fun _ hk => hk.2) (.string ((rd_T61 l0 x9_1).f1))) (fun _ hk => hk.2) (.int .i64 ((rd_T61 l0 x9_1).f2))) (fun _ hk => hk.2) (.int .i64 ((rd_T61 l0 x9_1).f3))) (fun _ hk => hk.1)⟩, ⟨by (with_reducible repeat (first | apply Kd.R_alloc | apply Kd.R_drewN | apply Kd.R_drew)); exact Kd.R_mono (Kd.R_far (p := ⟨gb130, 3, none⟩) (Kd.R_far (p := ⟨gb130, 2, none⟩) (Kd.R_far (p := ⟨gb130, 1, none⟩) (Kd.R_far (p := ⟨gb130, 0, none⟩) (Kd.R_types HO_8.out BK130.out (by decide)) (fun _ hk => hk.2) (.int .u8 ((rd_T61 l0 x9_1).f0))) (fun _ hk => hk.2) (.string ((rd_T61 l0 x9_1).f1))) (fun _ hk => hk.2) (.int .i64 ((rd_T61 l0 x9_1).f2))) (fun _ hk => hk.2) (.int .i64 ((rd_T61 l0 x9_1).f3))) (fun _ hk => hk.1)⟩, ⟨by (with_reducible repeat (first | refine blk_drewN ?_ _ | refine blk_drew ?_ | refine blk_alloc ?_ _)); refine blk_put (cs := #[.int .u8 ((rd_T61 l0 x9_1).f0), .string ((rd_T61 l0 x9_1).f1), .int .i64 ((rd_T61 l0 x9_1).f2), .int .i64 0]) ?_ 3 _ rfl; (with_reducible repeat (first | refine blk_drewN ?_ _ | refine blk_drew ?_ | refine blk_alloc ?_ _)); refine blk_put (cs := #[.int .u8 ((rd_T61 l0 x9_1).f0), .string ((rd_T61 l0 x9_1).f1), .int .i64 0, .int .i64 0]) ?_ 2 _ rfl; (with_reducible repeat (first | refine blk_drewN ?_ _ | refine blk_drew ?_ | refine blk_alloc ?_ _)); refine blk_put (cs := #[.int .u8 ((rd_T61 l0 x9_1).f0), .string (⟨#[]⟩ : ByteArray), .int .i64 0, .int .i64 0]) ?_ 1 _ rfl; (with_reducible repeat (first | refine blk_drewN ?_ _ | refine blk_drew ?_ | refine blk_alloc ?_ _)); refine blk_put (cs := #[.int .u8 0, .string (⟨#[]⟩ : ByteArray), .int .i64 0, .int .i64 0]) ?_ 0 _ rfl; (with_reducible repeat (first | refine blk_drewN ?_ _ | refine blk_drew ?_ | refine blk_alloc ?_ _)); exact BK130.out⟩, ⟨by repeat (first | (with_reducible first | exact HB.out | apply below_alloc | apply pw_below_drewN | apply below_drew1 | refine below_set ?_ GE130.out) | exact HB.out)⟩⟩
        ·rw [if_neg c25] at H
         have c25b0 : (((rd_T61 l0 x9_1).f0) == 3) = false := beq_eq_false_iff_ne.mpr c25
         have c25b1 : (((rd_T61 l0 x9_1).f0) != 3) = true := bne_iff_ne.mpr c25
         have H' := Aside0.mk H
         clear H
         have hcz27_0 : w21.cell? ⟨gb130, 0, none⟩ = some (.int .u8 0) := (blk_cell BK130.out 0).trans rfl
         have hcz27_1 : w21.cell? ⟨gb130, 1, none⟩ = some (.string (⟨#[]⟩ : ByteArray)) := (blk_cell BK130.out 1).trans rfl
         have hcz27_2 : w21.cell? ⟨gb130, 2, none⟩ = some (.int .i64 0) := (blk_cell BK130.out 2).trans rfl
         have hcz27_3 : w21.cell? ⟨gb130, 3, none⟩ = some (.int .i64 0) := (blk_cell BK130.out 3).trans rfl
         have hfz27_0 := blk_frozen BK130.out 0
         have hfz27_1 := blk_frozen BK130.out 1
         have hfz27_2 := blk_frozen BK130.out 2
         have hfz27_3 := blk_frozen BK130.out 3
         go_wp2
         repeat (go_quiet (fail); try go_wp2)
         go_meet
         case rel => exact ⟨_, ((((rd_T61 l0 x9_1).f0) != 4)), (by first | rfl | (simp; done) | (simp [*]; done)), H', ⟨by have := HK1.out; first | omega | exact Nat.le_refl _⟩, ⟨by (with_reducible repeat (first | apply Kd.S_alloc | apply Kd.S_drewN | apply Kd.S_drew)); exact Kd.S_mono (Kd.S_far (p := ⟨gb130, 3, none⟩) (Kd.S_far (p := ⟨gb130, 2, none⟩) (Kd.S_far (p := ⟨gb130, 1, none⟩) (Kd.S_far (p := ⟨gb130, 0, none⟩) (Kd.S_types HO_6.out BK130.out (by decide)) (fun _ hk => hk.2) (.int .u8 ((rd_T61 l0 x9_1).f0))) (fun _ hk => hk.2) (.string ((rd_T61 l0 x9_1).f1))) (fun _ hk => hk.2) (.int .i64 ((rd_T61 l0 x9_1).f2))) (fun _ hk => hk.2) (.int .i64 ((rd_T61 l0 x9_1).f3))) (fun _ hk => ⟨hk.1.1, hk.1.2⟩)⟩, ⟨by (with_reducible repeat (first | apply Kd.R_alloc | apply Kd.R_drewN | apply Kd.R_drew)); exact Kd.R_mono (Kd.R_far (p := ⟨gb130, 3, none⟩) (Kd.R_far (p := ⟨gb130, 2, none⟩) (Kd.R_far (p := ⟨gb130, 1, none⟩) (Kd.R_far (p := ⟨gb130, 0, none⟩) (Kd.R_types HO_7.out BK130.out (by decide)) (fun _ hk => hk.2) (.int .u8 ((rd_T61 l0 x9_1).f0))) (fun _ hk => hk.2) (.string ((rd_T61 l0 x9_1).f1))) (fun _ hk => hk.2) (.int .i64 ((rd_T61 l0 x9_1).f2))) (fun _ hk => hk.2) (.int .i64 ((rd_T61 l0 x9_1).f3))) (fun _ hk => hk.1)⟩, ⟨by (with_reducible repeat (first | apply Kd.R_alloc | apply Kd.R_drewN | apply Kd.R_drew)); exact Kd.R_mono (Kd.R_far (p := ⟨gb130, 3, none⟩) (Kd.R_far (p := ⟨gb130, 2, none⟩) (Kd.R_far (p := ⟨gb130, 1, none⟩) (Kd.R_far (p := ⟨gb130, 0, none⟩) (Kd.R_types HO_8.out BK130.out (by decide)) (fun _ hk => hk.2) (.int .u8 ((rd_T61 l0 x9_1).f0))) (fun _ hk => hk.2) (.string ((rd_T61 l0 x9_1).f1))) (fun _ hk => hk.2) (.int .i64 ((rd_T61 l0 x9_1).f2))) (fun _ hk => hk.2) (.int .i64 ((rd_T61 l0 x9_1).f3))) (fun _ hk => hk.1)⟩, ⟨by (with_reducible repeat (first | refine blk_drewN ?_ _ | refine blk_drew ?_ | refine blk_alloc ?_ _)); refine blk_put (cs := #[.int .u8 ((rd_T61 l0 x9_1).f0), .string ((rd_T61 l0 x9_1).f1), .int .i64 ((rd_T61 l0 x9_1).f2), .int .i64 0]) ?_ 3 _ rfl; (with_reducible repeat (first | refine blk_drewN ?_ _ | refine blk_drew ?_ | refine blk_alloc ?_ _)); refine blk_put (cs := #[.int .u8 ((rd_T61 l0 x9_1).f0), .string ((rd_T61 l0 x9_1).f1), .int .i64 0, .int .i64 0]) ?_ 2 _ rfl; (with_reducible repeat (first | refine blk_drewN ?_ _ | refine blk_drew ?_ | refine blk_alloc ?_ _)); refine blk_put (cs := #[.int .u8 ((rd_T61 l0 x9_1).f0), .string (⟨#[]⟩ : ByteArray), .int .i64 0, .int .i64 0]) ?_ 1 _ rfl; (with_reducible repeat (first | refine blk_drewN ?_ _ | refine blk_drew ?_ | refine blk_alloc ?_ _)); refine blk_put (cs := #[.int .u8 0, .string (⟨#[]⟩ : ByteArray), .int .i64 0, .int .i64 0]) ?_ 0 _ rfl; (with_reducible repeat (first | refine blk_drewN ?_ _ | refine blk_drew ?_ | refine blk_alloc ?_ _)); exact BK130.out⟩, ⟨by repeat (first | (with_reducible first | exact HB.out | apply below_alloc | apply pw_below_drewN | apply below_drew1 | refine below_set ?_ GE130.out) | exact HB.out)⟩⟩
      case rest =>
       clear HC20
       try clear c1
       try clear p1
       try clear q1
       try clear hx1
       try clear c2
       try clear c2b0
       try clear p2
       try clear c3
       try clear c3b0
       try clear c4
       try clear c4b0
       try clear c4b1
       try clear c5
       try clear c5b0
       try clear c5b1
       try clear c5b2
       try clear p6
       try clear c10
       try clear c10b0
       try clear c10b1
       try clear c11
       try clear c11b0
       try clear c11b1
       try clear c12
       try clear p12
       try clear q12
       try clear hx12
       try clear q18
       try clear c23
       try clear c23b0
       try clear c23b1
       try clear c25
       try clear c25b0
       try clear c25b1
       try clear hcz14_0
       try clear hcz14_1
       try clear hcz14_2
       try clear hcz14_3
       try clear hcz22_0
       try clear hcz22_1
       try clear hcz22_2
       try clear hcz22_3
       try clear hcz24_0
       try clear hcz24_1
       try clear hcz24_2
       try clear hcz24_3
       try clear hcz26_0
       try clear hcz26_1
       try clear hcz26_2
       try clear hcz26_3
       try clear hcz27_0
       try clear hcz27_1
       try clear hcz27_2
       try clear hcz27_3
       try clear hcz7_0
       try clear hcz7_1
       try clear hcz7_2
       try clear hcz7_3
       try clear hfz14_0
       try clear hfz14_1
       try clear hfz14_2
       try clear hfz14_3
       try clear hfz22_0
       try clear hfz22_1
       try clear hfz22_2
       try clear hfz22_3
       try clear hfz24_0
       try clear hfz24_1
       try clear hfz24_2
       try clear hfz24_3
       try clear hfz26_0
       try clear hfz26_1
       try clear hfz26_2
       try clear hfz26_3
       try clear hfz27_0
       try clear hfz27_1
       try clear hfz27_2
       try clear hfz27_3
       try clear hfz7_0
       try clear hfz7_1
       try clear hfz7_2
       try clear hfz7_3
       try clear hx129_0
       try clear hx129_1
       try clear hx129_2
       try clear hx129_3
       try clear p129
       try clear q129
       try clear q18
       obtain ⟨kq, x51_19, rfl, HA, HJ19, HO_6, HO_7, HO_8, BK130, HB⟩ := hcut
       cases kq with
       | zero => exact absurd HA.out (by simp [reticuleref07_Parse.j1])
       | succ kj19 =>
        have H := HA.out
        clear HA
        simp only [reticuleref07_Parse.j1] at H
        by_cases c28 : x51_19 = true
        ·subst c28
         have H1 : (reticuleref07_Parse.l0 kj19 l0 x6_1 x7_1 x8_1 (wrap64 (x9_1 + 1))) = some (r1, r2, r3, r4) := by rw [if_pos rfl] at H; exact H
         clear H
         have H := H1
         clear H1
         have H' := Aside0.mk H
         clear H
         go_wp2
         repeat (go_quiet (fail); try go_wp2)
         go_roundg kj19
         case measure => have := HK1.out; have := HJ19.out; omega
         case rel => exact ⟨(x6_1), (x7_1), (x8_1), (wrap64 (x9_1 + 1)), (by first | rfl | (simp; done) | (simp [*]; done)), H', ⟨by have := HK1.out; have := HJ19.out; omega⟩, ⟨by (with_reducible repeat (first | apply Kd.S_alloc | apply Kd.S_drewN | apply Kd.S_drew)); exact HO_6.out⟩, ⟨by (with_reducible repeat (first | apply Kd.R_alloc | apply Kd.R_drewN | apply Kd.R_drew)); exact HO_7.out⟩, ⟨by (with_reducible repeat (first | apply Kd.R_alloc | apply Kd.R_drewN | apply Kd.R_drew)); exact HO_8.out⟩, ⟨by repeat (first | (with_reducible first | exact HB.out | apply below_alloc | apply pw_below_drewN | apply below_drew1 | refine below_set ?_ GE130.out) | exact HB.out)⟩⟩
        ·replace c28 := Bool.eq_false_iff.mpr c28
         subst c28
         have H1 : (if ((rd_T61 l0 x9_1).f0) = 1 then (if (x8_1.length : Int) ≥ 12 then (reticuleref07_Parse.j2 kj19 l0 x6_1 x7_1 x8_1 x9_1 true ((rd_T61 l0 x9_1).f0) ((rd_T61 l0 x9_1).f1) ((rd_T61 l0 x9_1).f2) ((rd_T61 l0 x9_1).f3)) else (reticuleref07_Parse.j2 kj19 l0 x6_1 x7_1 x8_1 x9_1 (decide ((x6_1.length : Int) ≥ 400)) ((rd_T61 l0 x9_1).f0) ((rd_T61 l0 x9_1).f1) ((rd_T61 l0 x9_1).f2) ((rd_T61 l0 x9_1).f3))) else (reticuleref07_Parse.j2 kj19 l0 x6_1 x7_1 x8_1 x9_1 (decide ((x6_1.length : Int) ≥ 400)) ((rd_T61 l0 x9_1).f0) ((rd_T61 l0 x9_1).f1) ((rd_T61 l0 x9_1).f2) ((rd_T61 l0 x9_1).f3))) = some (r1, r2, r3, r4) := by rw [if_neg (show ¬ (false = true) by decide)] at H; exact H
         clear H
         have H := H1
         clear H1
         have HC29 := Aside0.mk H
         clear H
         go_upto_region 12 with (fail)
         repeat (go_quiet (fail); go_upto_region 12 with (fail))
         go_cut [64] (fun v64 wc => ∃ (kq : Nat) (x64_28 : Bool), v64 = .bool x64_28 ∧ Aside0 (reticuleref07_Parse.j2 kq l0 x6_1 x7_1 x8_1 x9_1 x64_28 ((rd_T61 l0 x9_1).f0) ((rd_T61 l0 x9_1).f1) ((rd_T61 l0 x9_1).f2) ((rd_T61 l0 x9_1).f3) = some (r1, r2, r3, r4)) ∧ Aside0 (kq ≤ kj19) ∧ Aside0 (Kd.S k33 33 wc w.heap.size (fun k_ => some k_ ≠ (u7 : Value).ownBlock ∧ some k_ ≠ (u8 : Value).ownBlock) u6 x6_1) ∧ Aside0 (Kd.R (Kd.int .i64) 3 wc w.heap.size (fun k_ => some k_ ≠ (u8 : Value).ownBlock) u7 x7_1) ∧ Aside0 (Kd.R (Kd.int .i64) 3 wc w.heap.size (fun k_ => some k_ ≠ (u7 : Value).ownBlock) u8 x8_1) ∧ Aside0 (wc.heap[gb130]? = some (.cells #[.int .u8 ((rd_T61 l0 x9_1).f0), .string ((rd_T61 l0 x9_1).f1), .int .i64 ((rd_T61 l0 x9_1).f2), .int .i64 ((rd_T61 l0 x9_1).f3)] 61 (0, 0))) ∧ Aside0 (Below w.heap.size w wc))
         case first =>
          have H := HC29.out
          clear HC29
          by_cases c30 : ((rd_T61 l0 x9_1).f0) = 1
          ·rw [if_pos c30] at H
           have c30b0 : (((rd_T61 l0 x9_1).f0) == 1) = true := beq_iff_eq.mpr c30
           have c30b1 : (((rd_T61 l0 x9_1).f0) != 1) = false := bne_eq_false_iff_eq.mpr c30
           clear c30
           (first | rw [c30b0] | (simp only [i64_w, i32_w]; rw [c30b0]) | skip)
           by_cases c31 : (x8_1.length : Int) ≥ 12
           ·rw [if_pos c31] at H
            have c31b0 : decide (12 ≤ (x8_1.length : Int)) = true := decide_eq_true c31
            have c31b1 : decide (12 ≤ x8_1.length) = true := decide_eq_true (by omega)
            clear c31
            have H' := Aside0.mk H
            clear H
            have hcz32_0 : wc.cell? ⟨gb130, 0, none⟩ = some (.int .u8 ((rd_T61 l0 x9_1).f0)) := (blk_cell BK130.out 0).trans rfl
            have hcz32_1 : wc.cell? ⟨gb130, 1, none⟩ = some (.string ((rd_T61 l0 x9_1).f1)) := (blk_cell BK130.out 1).trans rfl
            have hcz32_2 : wc.cell? ⟨gb130, 2, none⟩ = some (.int .i64 ((rd_T61 l0 x9_1).f2)) := (blk_cell BK130.out 2).trans rfl
            have hcz32_3 : wc.cell? ⟨gb130, 3, none⟩ = some (.int .i64 ((rd_T61 l0 x9_1).f3)) := (blk_cell BK130.out 3).trans rfl
            have hfz32_0 := blk_frozen BK130.out 0
            have hfz32_1 := blk_frozen BK130.out 1
            have hfz32_2 := blk_frozen BK130.out 2
            have hfz32_3 := blk_frozen BK130.out 3
            obtain ⟨Ao33, co33, eo33⟩ := Kd.R_slice HO_8.out
            subst eo33
            go_wp2
            repeat (go_quiet (fail); try go_wp2)
            go_meet
            case rel => exact ⟨_, (true), (by first | rfl | (simp; done) | (simp [*]; done)), H', ⟨by have := HK1.out; have := HJ19.out; first | omega | exact Nat.le_refl _⟩, ⟨by (with_reducible repeat (first | apply Kd.S_alloc | apply Kd.S_drewN | apply Kd.S_drew)); exact HO_6.out⟩, ⟨by (with_reducible repeat (first | apply Kd.R_alloc | apply Kd.R_drewN | apply Kd.R_drew)); exact HO_7.out⟩, ⟨by (with_reducible repeat (first | apply Kd.R_alloc | apply Kd.R_drewN | apply Kd.R_drew)); exact HO_8.out⟩, ⟨by (with_reducible repeat (first | refine blk_drewN ?_ _ | refine blk_drew ?_ | refine blk_alloc ?_ _)); exact BK130.out⟩, ⟨by repeat (first | (with_reducible first | exact HB.out | apply below_alloc | apply pw_below_drewN | apply below_drew1 | refine below_set ?_ GE130.out) | exact HB.out)⟩⟩
           ·rw [if_neg c31] at H
            have c31b0 : decide (12 ≤ (x8_1.length : Int)) = false := decide_eq_false c31
            have c31b1 : decide (12 ≤ x8_1.length) = false := decide_eq_false (by omega)
            clear c31
            have H' := Aside0.mk H
            clear H
            have hcz34_0 : wc.cell? ⟨gb130, 0, none⟩ = some (.int .u8 ((rd_T61 l0 x9_1).f0)) := (blk_cell BK130.out 0).trans rfl
            have hcz34_1 : wc.cell? ⟨gb130, 1, none⟩ = some (.string ((rd_T61 l0 x9_1).f1)) := (blk_cell BK130.out 1).trans rfl
            have hcz34_2 : wc.cell? ⟨gb130, 2, none⟩ = some (.int .i64 ((rd_T61 l0 x9_1).f2)) := (blk_cell BK130.out 2).trans rfl
            have hcz34_3 : wc.cell? ⟨gb130, 3, none⟩ = some (.int .i64 ((rd_T61 l0 x9_1).f3)) := (blk_cell BK130.out 3).trans rfl
            have hfz34_0 := blk_frozen BK130.out 0
            have hfz34_1 := blk_frozen BK130.out 1
            have hfz34_2 := blk_frozen BK130.out 2
            have hfz34_3 := blk_frozen BK130.out 3
            obtain ⟨Ao35, co35, eo35⟩ := Kd.R_slice HO_8.out
            subst eo35
            obtain ⟨Ao36, co36, eo36⟩ := Kd.S_slice HO_6.out
            subst eo36
            go_wp2
            repeat (go_quiet (fail); try go_wp2)
            go_meet
            case rel => exact ⟨_, (decide ((x6_1.length : Int) ≥ 400)), (by first | rfl | (simp; done) | (simp [*]; done)), H', ⟨by have := HK1.out; have := HJ19.out; first | omega | exact Nat.le_refl _⟩, ⟨by (with_reducible repeat (first | apply Kd.S_alloc | apply Kd.S_drewN | apply Kd.S_drew)); exact HO_6.out⟩, ⟨by (with_reducible repeat (first | apply Kd.R_alloc | apply Kd.R_drewN | apply Kd.R_drew)); exact HO_7.out⟩, ⟨by (with_reducible repeat (first | apply Kd.R_alloc | apply Kd.R_drewN | apply Kd.R_drew)); exact HO_8.out⟩, ⟨by (with_reducible repeat (first | refine blk_drewN ?_ _ | refine blk_drew ?_ | refine blk_alloc ?_ _)); exact BK130.out⟩, ⟨by repeat (first | (with_reducible first | exact HB.out | apply below_alloc | apply pw_below_drewN | apply below_drew1 | refine below_set ?_ GE130.out) | exact HB.out)⟩⟩
          ·rw [if_neg c30] at H
           have c30b0 : (((rd_T61 l0 x9_1).f0) == 1) = false := beq_eq_false_iff_ne.mpr c30
           have c30b1 : (((rd_T61 l0 x9_1).f0) != 1) = true := bne_iff_ne.mpr c30
           (first | rw [c30b0] | (simp only [i64_w, i32_w]; rw [c30b0]) | skip)
           have H' := Aside0.mk H
           clear H
           have hcz37_0 : wc.cell? ⟨gb130, 0, none⟩ = some (.int .u8 ((rd_T61 l0 x9_1).f0)) := (blk_cell BK130.out 0).trans rfl
           have hcz37_1 : wc.cell? ⟨gb130, 1, none⟩ = some (.string ((rd_T61 l0 x9_1).f1)) := (blk_cell BK130.out 1).trans rfl
           have hcz37_2 : wc.cell? ⟨gb130, 2, none⟩ = some (.int .i64 ((rd_T61 l0 x9_1).f2)) := (blk_cell BK130.out 2).trans rfl
           have hcz37_3 : wc.cell? ⟨gb130, 3, none⟩ = some (.int .i64 ((rd_T61 l0 x9_1).f3)) := (blk_cell BK130.out 3).trans rfl
           have hfz37_0 := blk_frozen BK130.out 0
           have hfz37_1 := blk_frozen BK130.out 1
           have hfz37_2 := blk_frozen BK130.out 2
           have hfz37_3 := blk_frozen BK130.out 3
           obtain ⟨Ao38, co38, eo38⟩ := Kd.S_slice HO_6.out
           subst eo38
           go_wp2
           repeat (go_quiet (fail); try go_wp2)
           go_meet
           case rel => exact ⟨_, (decide ((x6_1.length : Int) ≥ 400)), (by first | rfl | (simp; done) | (simp [*]; done)), H', ⟨by have := HK1.out; have := HJ19.out; first | omega | exact Nat.le_refl _⟩, ⟨by (with_reducible repeat (first | apply Kd.S_alloc | apply Kd.S_drewN | apply Kd.S_drew)); exact HO_6.out⟩, ⟨by (with_reducible repeat (first | apply Kd.R_alloc | apply Kd.R_drewN | apply Kd.R_drew)); exact HO_7.out⟩, ⟨by (with_reducible repeat (first | apply Kd.R_alloc | apply Kd.R_drewN | apply Kd.R_drew)); exact HO_8.out⟩, ⟨by (with_reducible repeat (first | refine blk_drewN ?_ _ | refine blk_drew ?_ | refine blk_alloc ?_ _)); exact BK130.out⟩, ⟨by repeat (first | (with_reducible first | exact HB.out | apply below_alloc | apply pw_below_drewN | apply below_drew1 | refine below_set ?_ GE130.out) | exact HB.out)⟩⟩
         case rest =>
          clear HC29
          try clear c1
          try clear p1
          try clear q1
          try clear hx1
          try clear c2
          try clear c2b0
          try clear p2
          try clear c3
          try clear c3b0
          try clear c4
          try clear c4b0
          try clear c4b1
          try clear c5
          try clear c5b0
          try clear c5b1
          try clear c5b2
          try clear p6
          try clear c10
          try clear c10b0
          try clear c10b1
          try clear c11
          try clear c11b0
          try clear c11b1
          try clear c12
          try clear p12
          try clear q12
          try clear hx12
          try clear q18
          try clear c23
          try clear c23b0
          try clear c23b1
          try clear c25
          try clear c25b0
          try clear c25b1
          try clear c28
          try clear c30
          try clear c30b0
          try clear c30b1
          try clear c31
          try clear c31b0
          try clear c31b1
          try clear hcz14_0
          try clear hcz14_1
          try clear hcz14_2
          try clear hcz14_3
          try clear hcz22_0
          try clear hcz22_1
          try clear hcz22_2
          try clear hcz22_3
          try clear hcz24_0
          try clear hcz24_1
          try clear hcz24_2
          try clear hcz24_3
          try clear hcz26_0
          try clear hcz26_1
          try clear hcz26_2
          try clear hcz26_3
          try clear hcz27_0
          try clear hcz27_1
          try clear hcz27_2
          try clear hcz27_3
          try clear hcz32_0
          try clear hcz32_1
          try clear hcz32_2
          try clear hcz32_3
          try clear hcz34_0
          try clear hcz34_1
          try clear hcz34_2
          try clear hcz34_3
          try clear hcz37_0
          try clear hcz37_1
          try clear hcz37_2
          try clear hcz37_3
          try clear hcz7_0
          try clear hcz7_1
          try clear hcz7_2
          try clear hcz7_3
          try clear hfz14_0
          try clear hfz14_1
          try clear hfz14_2
          try clear hfz14_3
          try clear hfz22_0
          try clear hfz22_1
          try clear hfz22_2
          try clear hfz22_3
          try clear hfz24_0
          try clear hfz24_1
          try clear hfz24_2
          try clear hfz24_3
          try clear hfz26_0
          try clear hfz26_1
          try clear hfz26_2
          try clear hfz26_3
          try clear hfz27_0
          try clear hfz27_1
          try clear hfz27_2
          try clear hfz27_3
          try clear hfz32_0
          try clear hfz32_1
          try clear hfz32_2
          try clear hfz32_3
          try clear hfz34_0
          try clear hfz34_1
          try clear hfz34_2
          try clear hfz34_3
          try clear hfz37_0
          try clear hfz37_1
          try clear hfz37_2
          try clear hfz37_3
          try clear hfz7_0
          try clear hfz7_1
          try clear hfz7_2
          try clear hfz7_3
          try clear hx129_0
          try clear hx129_1
          try clear hx129_2
          try clear hx129_3
          try clear p1
          try clear p12
          try clear p129
          try clear p2
          try clear p6
          try clear q1
          try clear q12
          try clear q129
          try clear q18
          obtain ⟨kq, x64_28, rfl, HA, HJ28, HO_6, HO_7, HO_8, BK130, HB⟩ := hcut
          cases kq with
          | zero => exact absurd HA.out (by simp [reticuleref07_Parse.j2])
          | succ kj28 =>
           have H := HA.out
           clear HA
           simp only [reticuleref07_Parse.j2] at H
           by_cases c39 : x64_28 = true
           ·subst c39
            have H1 : (some (([] : List (S33)), ([] : List Int), ((rd_T61 l0 x9_1).f3), 4)) = some (r1, r2, r3, r4) := by rw [if_pos rfl] at H; exact H
            clear H
            have H := H1
            clear H1
            simp only [Option.some.injEq, Prod.mk.injEq] at H
            obtain ⟨rfl, rfl, rfl, rfl⟩ := H
            have hcz40_0 : wc.cell? ⟨gb130, 0, none⟩ = some (.int .u8 ((rd_T61 l0 x9_1).f0)) := (blk_cell BK130.out 0).trans rfl
            have hcz40_1 : wc.cell? ⟨gb130, 1, none⟩ = some (.string ((rd_T61 l0 x9_1).f1)) := (blk_cell BK130.out 1).trans rfl
            have hcz40_2 : wc.cell? ⟨gb130, 2, none⟩ = some (.int .i64 ((rd_T61 l0 x9_1).f2)) := (blk_cell BK130.out 2).trans rfl
            have hcz40_3 : wc.cell? ⟨gb130, 3, none⟩ = some (.int .i64 ((rd_T61 l0 x9_1).f3)) := (blk_cell BK130.out 3).trans rfl
            have hfz40_0 := blk_frozen BK130.out 0
            have hfz40_1 := blk_frozen BK130.out 1
            have hfz40_2 := blk_frozen BK130.out 2
            have hfz40_3 := blk_frozen BK130.out 3
            go_wp2
            repeat (go_quiet (fail); try go_wp2)
            refine bodyPost_ret (results_list (rs := [.tmp 2, .tmp 3, .tmp 4, .tmp 5]) rfl (by simp) (.tmp (.tmp (.tmp (.tmp .nil))))) rfl ?_
            exact ⟨_, _, by first | rfl | (simp [errW_none, errW_some] <;> rfl) | (simp [*, errW_none, errW_some] <;> rfl), by first | exact Kd.S_nil _ _ _ _ _ | exact Kd.N_nil _ _ _ _ _ | exact Kd.V_nil _ _ _ _ _ | exact Kd.Q_nil _ _ _ _ _ | exact Kd.R_nil _ _ _ _ _, by first | exact Kd.R_nil _ _ _ _ _ | exact Kd.N_nil _ _ _ _ _ | exact Kd.V_nil _ _ _ _ _ | exact Kd.Q_nil _ _ _ _ _ | exact Kd.S_nil _ _ _ _ _, by repeat (first | (with_reducible first | exact HB.out | apply below_alloc | apply pw_below_drewN | apply below_drew1 | refine below_set ?_ GE130.out) | exact HB.out)⟩
           ·replace c39 := Bool.eq_false_iff.mpr c39
            subst c39
            have H1 : (if ((rd_T61 l0 x9_1).f0) = 3 then (reticuleref07_Parse.j3 kj28 l0 x6_1 x7_1 x8_1 x9_1 ((rd_T61 l0 x9_1).f0) ((rd_T61 l0 x9_1).f1) ((rd_T61 l0 x9_1).f2) ((rd_T61 l0 x9_1).f3) ((rd_T61 l0 x9_1).f0) ((rd_T61 l0 x9_1).f1) 0 ((rd_T61 l0 x9_1).f3)) else (if ((rd_T61 l0 x9_1).f0) = 4 then (reticuleref07_Parse.j3 kj28 l0 x6_1 x7_1 x8_1 x9_1 ((rd_T61 l0 x9_1).f0) ((rd_T61 l0 x9_1).f1) ((rd_T61 l0 x9_1).f2) ((rd_T61 l0 x9_1).f3) ((rd_T61 l0 x9_1).f0) (⟨#[]⟩ : ByteArray) ((rd_T61 l0 x9_1).f2) ((rd_T61 l0 x9_1).f3)) else (reticuleref07_Parse.j3 kj28 l0 x6_1 x7_1 x8_1 x9_1 ((rd_T61 l0 x9_1).f0) ((rd_T61 l0 x9_1).f1) ((rd_T61 l0 x9_1).f2) ((rd_T61 l0 x9_1).f3) ((rd_T61 l0 x9_1).f0) (⟨#[]⟩ : ByteArray) 0 ((rd_T61 l0 x9_1).f3)))) = some (r1, r2, r3, r4) := by rw [if_neg (show ¬ (false = true) by decide)] at H; exact H
            clear H
            have H := H1
            clear H1
            have HC41 := Aside0.mk H
            clear H
            have hcz42_0 : wc.cell? ⟨gb130, 0, none⟩ = some (.int .u8 ((rd_T61 l0 x9_1).f0)) := (blk_cell BK130.out 0).trans rfl
            have hcz42_1 : wc.cell? ⟨gb130, 1, none⟩ = some (.string ((rd_T61 l0 x9_1).f1)) := (blk_cell BK130.out 1).trans rfl
            have hcz42_2 : wc.cell? ⟨gb130, 2, none⟩ = some (.int .i64 ((rd_T61 l0 x9_1).f2)) := (blk_cell BK130.out 2).trans rfl
            have hcz42_3 : wc.cell? ⟨gb130, 3, none⟩ = some (.int .i64 ((rd_T61 l0 x9_1).f3)) := (blk_cell BK130.out 3).trans rfl
            have hfz42_0 := blk_frozen BK130.out 0
            have hfz42_1 := blk_frozen BK130.out 1
            have hfz42_2 := blk_frozen BK130.out 2
            have hfz42_3 := blk_frozen BK130.out 3
            go_upto_block 2 with (first | ((with_reducible refine gate_dst (N := 11) rfl ?_); (try (refine gate_guard (by rfl) ?_; dsimp only)); refine box_event ?hg (N := 11) ?hd (cs := #[.int .u8 0, .string (⟨#[]⟩ : ByteArray), .int .i64 0, .slice none 0 0, .int .i64 0]) (t := 33) ?hr ?_; (case hd => rfl); (case hg => rfl); (case hr => first | (go_simp; done) | (go_simp; rfl)); intro gb141 hg w43 hbox hb; have n0_ := Aside0.mk (Kd.S_below (Kd.S_elderB (by (with_reducible repeat (first | apply Kd.S_alloc | apply Kd.S_drewN | apply Kd.S_drew)); exact HO_6.out) gb141 (Nat.le_of_eq hg.symm)) hb); have n1_ := Aside0.mk (Kd.R_below (by (with_reducible repeat (first | apply Kd.R_alloc | apply Kd.R_drewN | apply Kd.R_drew)); exact HO_7.out) hb); have n2_ := Aside0.mk (Kd.R_below (by (with_reducible repeat (first | apply Kd.R_alloc | apply Kd.R_drewN | apply Kd.R_drew)); exact HO_8.out) hb); have n3_ := Aside0.mk (blk_below (g := gb130) (o := .cells #[.int .u8 ((rd_T61 l0 x9_1).f0), .string ((rd_T61 l0 x9_1).f1), .int .i64 ((rd_T61 l0 x9_1).f2), .int .i64 ((rd_T61 l0 x9_1).f3)] 61 (0, 0)) (by (with_reducible repeat (first | refine blk_drewN ?_ _ | refine blk_drew ?_ | refine blk_alloc ?_ _)); exact BK130.out) hb); have n4_ := Aside0.mk (below_step (by repeat (first | (with_reducible first | exact HB.out | apply below_alloc | apply pw_below_drewN | apply below_drew1 | refine below_set ?_ GE130.out) | exact HB.out)) hb); have n5_ := Aside0.mk (hbox); have n6_ := Aside0.mk ((by rw [hg]; exact (below_size (by repeat (first | (with_reducible first | exact HB.out | apply below_alloc | apply pw_below_drewN | apply below_drew1 | refine below_set ?_ GE130.out) | exact HB.out))) : w.heap.size ≤ gb141)); have n7_ := Aside0.mk ((by rw [hg]; exact (below_size (by repeat (first | (with_reducible first | exact HB.out | apply below_alloc | apply pw_below_drewN | apply below_drew1 | refine below_set ?_ GE130.out) | exact HB.out))) : w.heap.size ≤ gb141)); have n8_ := Aside0.mk ((by rw [hg]; exact Nat.ne_of_lt (blk_lt (g := gb130) (o := .cells #[.int .u8 ((rd_T61 l0 x9_1).f0), .string ((rd_T61 l0 x9_1).f1), .int .i64 ((rd_T61 l0 x9_1).f2), .int .i64 ((rd_T61 l0 x9_1).f3)] 61 (0, 0)) (by (with_reducible repeat (first | refine blk_drewN ?_ _ | refine blk_drew ?_ | refine blk_alloc ?_ _)); exact BK130.out)) : gb130 ≠ gb141)); have n9_ := Aside0.mk ((by rw [hg]; exact Nat.ne_of_gt (blk_lt (g := gb130) (o := .cells #[.int .u8 ((rd_T61 l0 x9_1).f0), .string ((rd_T61 l0 x9_1).f1), .int .i64 ((rd_T61 l0 x9_1).f2), .int .i64 ((rd_T61 l0 x9_1).f3)] 61 (0, 0)) (by (with_reducible repeat (first | refine blk_drewN ?_ _ | refine blk_drew ?_ | refine blk_alloc ?_ _)); exact BK130.out)) : gb141 ≠ gb130)); clear HO_6; clear HO_7; clear HO_8; clear BK130; clear HB; have HO_6 := n0_; have HO_7 := n1_; have HO_8 := n2_; have BK130 := n3_; have HB := n4_; have BK141 := n5_; have GW141 := n6_; have GE141 := n7_; have NB130_141 := n8_; have NB141_130 := n9_; clear n0_ n1_ n2_ n3_ n4_ n5_ n6_ n7_ n8_ n9_; clear hb hbox hg; have hnb44 := NB141_130.out; have hnc44 := NB130_141.out; have hcz45_0 : w43.cell? ⟨gb141, 0, none⟩ = some (.int .u8 0) := (blk_cell BK141.out 0).trans rfl; have hcz45_1 : w43.cell? ⟨gb141, 1, none⟩ = some (.string (⟨#[]⟩ : ByteArray)) := (blk_cell BK141.out 1).trans rfl; have hcz45_2 : w43.cell? ⟨gb141, 2, none⟩ = some (.int .i64 0) := (blk_cell BK141.out 2).trans rfl; have hcz45_3 : w43.cell? ⟨gb141, 3, none⟩ = some (.slice none 0 0) := (blk_cell BK141.out 3).trans rfl; have hcz45_4 : w43.cell? ⟨gb141, 4, none⟩ = some (.int .i64 0) := (blk_cell BK141.out 4).trans rfl; have hfz45_0 := blk_frozen BK141.out 0; have hfz45_1 := blk_frozen BK141.out 1; have hfz45_2 := blk_frozen BK141.out 2; have hfz45_3 := blk_frozen BK141.out 3; have hfz45_4 := blk_frozen BK141.out 4; have hcz46_0 : w43.cell? ⟨gb130, 0, none⟩ = some (.int .u8 ((rd_T61 l0 x9_1).f0)) := (blk_cell BK130.out 0).trans rfl; have hcz46_1 : w43.cell? ⟨gb130, 1, none⟩ = some (.string ((rd_T61 l0 x9_1).f1)) := (blk_cell BK130.out 1).trans rfl; have hcz46_2 : w43.cell? ⟨gb130, 2, none⟩ = some (.int .i64 ((rd_T61 l0 x9_1).f2)) := (blk_cell BK130.out 2).trans rfl; have hcz46_3 : w43.cell? ⟨gb130, 3, none⟩ = some (.int .i64 ((rd_T61 l0 x9_1).f3)) := (blk_cell BK130.out 3).trans rfl; have hfz46_0 := blk_frozen BK130.out 0; have hfz46_1 := blk_frozen BK130.out 1; have hfz46_2 := blk_frozen BK130.out 2; have hfz46_3 := blk_frozen BK130.out 3))
            repeat (go_quiet (fail); try go_wp2)
            (try simp only [Act.put, List.setIfInBounds_toArray, List.set_cons_zero, List.set_cons_succ])
            go_cut [] (fun wc => ∃ (kq : Nat) (x142001_40 : ByteArray) (x142002_40 : Int), Aside0 (reticuleref07_Parse.j3 kq l0 x6_1 x7_1 x8_1 x9_1 ((rd_T61 l0 x9_1).f0) ((rd_T61 l0 x9_1).f1) ((rd_T61 l0 x9_1).f2) ((rd_T61 l0 x9_1).f3) ((rd_T61 l0 x9_1).f0) x142001_40 x142002_40 ((rd_T61 l0 x9_1).f3) = some (r1, r2, r3, r4)) ∧ Aside0 (kq ≤ kj28) ∧ Aside0 (Kd.S k33 33 wc w.heap.size (fun k_ => some k_ ≠ (u7 : Value).ownBlock ∧ some k_ ≠ (u8 : Value).ownBlock ∧ k_ ≠ gb141) u6 x6_1) ∧ Aside0 (Kd.R (Kd.int .i64) 3 wc w.heap.size (fun k_ => some k_ ≠ (u8 : Value).ownBlock) u7 x7_1) ∧ Aside0 (Kd.R (Kd.int .i64) 3 wc w.heap.size (fun k_ => some k_ ≠ (u7 : Value).ownBlock) u8 x8_1) ∧ Aside0 (wc.heap[gb130]? = some (.cells #[.int .u8 ((rd_T61 l0 x9_1).f0), .string ((rd_T61 l0 x9_1).f1), .int .i64 ((rd_T61 l0 x9_1).f2), .int .i64 ((rd_T61 l0 x9_1).f3)] 61 (0, 0))) ∧ Aside0 (wc.heap[gb141]? = some (.cells #[.int .u8 ((rd_T61 l0 x9_1).f0), .string x142001_40, .int .i64 x142002_40, (.slice none 0 0), .int .i64 ((rd_T61 l0 x9_1).f3)] 33 (0, 0))) ∧ Aside0 (Below w.heap.size w wc))
            case first =>
             have H := HC41.out
             clear HC41
             by_cases c47 : ((rd_T61 l0 x9_1).f0) = 3
             ·rw [if_pos c47] at H
              have c47b0 : (((rd_T61 l0 x9_1).f0) == 3) = true := beq_iff_eq.mpr c47
              have c47b1 : (((rd_T61 l0 x9_1).f0) != 3) = false := bne_eq_false_iff_eq.mpr c47
              clear c47
              (first | rw [c47b0] | (simp only [i64_w, i32_w]; rw [c47b0]) | skip)
              have H' := Aside0.mk H
              clear H
              have hnb48 := NB130_141.out
              have hnc48 := NB141_130.out
              have hcz49_0 : w43.cell? ⟨gb130, 0, none⟩ = some (.int .u8 ((rd_T61 l0 x9_1).f0)) := (blk_cell BK130.out 0).trans rfl
              have hcz49_1 : w43.cell? ⟨gb130, 1, none⟩ = some (.string ((rd_T61 l0 x9_1).f1)) := (blk_cell BK130.out 1).trans rfl
              have hcz49_2 : w43.cell? ⟨gb130, 2, none⟩ = some (.int .i64 ((rd_T61 l0 x9_1).f2)) := (blk_cell BK130.out 2).trans rfl
              have hcz49_3 : w43.cell? ⟨gb130, 3, none⟩ = some (.int .i64 ((rd_T61 l0 x9_1).f3)) := (blk_cell BK130.out 3).trans rfl
              have hfz49_0 := blk_frozen BK130.out 0
              have hfz49_1 := blk_frozen BK130.out 1
              have hfz49_2 := blk_frozen BK130.out 2
              have hfz49_3 := blk_frozen BK130.out 3
              have hcz50_0 : w43.cell? ⟨gb141, 0, none⟩ = some (.int .u8 0) := (blk_cell BK141.out 0).trans rfl
              have hcz50_1 : w43.cell? ⟨gb141, 1, none⟩ = some (.string (⟨#[]⟩ : ByteArray)) := (blk_cell BK141.out 1).trans rfl
              have hcz50_2 : w43.cell? ⟨gb141, 2, none⟩ = some (.int .i64 0) := (blk_cell BK141.out 2).trans rfl
              have hcz50_3 : w43.cell? ⟨gb141, 3, none⟩ = some (.slice none 0 0) := (blk_cell BK141.out 3).trans rfl
              have hcz50_4 : w43.cell? ⟨gb141, 4, none⟩ = some (.int .i64 0) := (blk_cell BK141.out 4).trans rfl
              have hfz50_0 := blk_frozen BK141.out 0
              have hfz50_1 := blk_frozen BK141.out 1
              have hfz50_2 := blk_frozen BK141.out 2
              have hfz50_3 := blk_frozen BK141.out 3
              have hfz50_4 := blk_frozen BK141.out 4
              go_wp2
              repeat (go_quiet (fail); try go_wp2)
              go_meet
              case rel => exact ⟨_, (((rd_T61 l0 x9_1).f1)), (0), H', ⟨by have := HK1.out; have := HJ19.out; have := HJ28.out; first | omega | exact Nat.le_refl _⟩, ⟨by (with_reducible repeat (first | apply Kd.S_alloc | apply Kd.S_drewN | apply Kd.S_drew)); exact Kd.S_mono (Kd.S_far (p := ⟨gb141, 1, none⟩) (Kd.S_far (p := ⟨gb141, 4, none⟩) (Kd.S_far (p := ⟨gb141, 3, none⟩) (Kd.S_far (p := ⟨gb141, 2, none⟩) (Kd.S_far (p := ⟨gb141, 1, none⟩) (Kd.S_far (p := ⟨gb141, 0, none⟩) (Kd.S_mono HO_6.out (fun k_ hk => (⟨hk, hk.2⟩ : _ ∧ k_ ≠ gb141))) (fun _ hk => hk.2) (.int .u8 ((rd_T61 l0 x9_1).f0))) (fun _ hk => hk.2) (.string (⟨#[]⟩ : ByteArray))) (fun _ hk => hk.2) (.int .i64 0)) (fun _ hk => hk.2) (.slice none 0 0)) (fun _ hk => hk.2) (.int .i64 ((rd_T61 l0 x9_1).f3))) (fun _ hk => hk.2) (.string ((rd_T61 l0 x9_1).f1))) (fun _ hk => ⟨hk.1.1.1, ⟨hk.1.1.2, hk.1.2⟩⟩)⟩, ⟨by (with_reducible repeat (first | apply Kd.R_alloc | apply Kd.R_drewN | apply Kd.R_drew)); exact Kd.R_mono (Kd.R_far (p := ⟨gb141, 1, none⟩) (Kd.R_far (p := ⟨gb141, 4, none⟩) (Kd.R_far (p := ⟨gb141, 3, none⟩) (Kd.R_far (p := ⟨gb141, 2, none⟩) (Kd.R_far (p := ⟨gb141, 1, none⟩) (Kd.R_far (p := ⟨gb141, 0, none⟩) (Kd.R_types HO_7.out BK141.out (by decide)) (fun _ hk => hk.2) (.int .u8 ((rd_T61 l0 x9_1).f0))) (fun _ hk => hk.2) (.string (⟨#[]⟩ : ByteArray))) (fun _ hk => hk.2) (.int .i64 0)) (fun _ hk => hk.2) (.slice none 0 0)) (fun _ hk => hk.2) (.int .i64 ((rd_T61 l0 x9_1).f3))) (fun _ hk => hk.2) (.string ((rd_T61 l0 x9_1).f1))) (fun _ hk => hk.1)⟩, ⟨by (with_reducible repeat (first | apply Kd.R_alloc | apply Kd.R_drewN | apply Kd.R_drew)); exact Kd.R_mono (Kd.R_far (p := ⟨gb141, 1, none⟩) (Kd.R_far (p := ⟨gb141, 4, none⟩) (Kd.R_far (p := ⟨gb141, 3, none⟩) (Kd.R_far (p := ⟨gb141, 2, none⟩) (Kd.R_far (p := ⟨gb141, 1, none⟩) (Kd.R_far (p := ⟨gb141, 0, none⟩) (Kd.R_types HO_8.out BK141.out (by decide)) (fun _ hk => hk.2) (.int .u8 ((rd_T61 l0 x9_1).f0))) (fun _ hk => hk.2) (.string (⟨#[]⟩ : ByteArray))) (fun _ hk => hk.2) (.int .i64 0)) (fun _ hk => hk.2) (.slice none 0 0)) (fun _ hk => hk.2) (.int .i64 ((rd_T61 l0 x9_1).f3))) (fun _ hk => hk.2) (.string ((rd_T61 l0 x9_1).f1))) (fun _ hk => hk.1)⟩, ⟨by (with_reducible repeat (first | refine blk_drewN ?_ _ | refine blk_drew ?_ | refine blk_alloc ?_ _)); refine blk_far ?_ NB130_141.out _; (with_reducible repeat (first | refine blk_drewN ?_ _ | refine blk_drew ?_ | refine blk_alloc ?_ _)); refine blk_far ?_ NB130_141.out _; (with_reducible repeat (first | refine blk_drewN ?_ _ | refine blk_drew ?_ | refine blk_alloc ?_ _)); refine blk_far ?_ NB130_141.out _; (with_reducible repeat (first | refine blk_drewN ?_ _ | refine blk_drew ?_ | refine blk_alloc ?_ _)); refine blk_far ?_ NB130_141.out _; (with_reducible repeat (first | refine blk_drewN ?_ _ | refine blk_drew ?_ | refine blk_alloc ?_ _)); refine blk_far ?_ NB130_141.out _; (with_reducible repeat (first | refine blk_drewN ?_ _ | refine blk_drew ?_ | refine blk_alloc ?_ _)); refine blk_far ?_ NB130_141.out _; (with_reducible repeat (first | refine blk_drewN ?_ _ | refine blk_drew ?_ | refine blk_alloc ?_ _)); exact BK130.out⟩, ⟨by (with_reducible repeat (first | refine blk_drewN ?_ _ | refine blk_drew ?_ | refine blk_alloc ?_ _)); refine blk_put (cs := #[.int .u8 ((rd_T61 l0 x9_1).f0), .string (⟨#[]⟩ : ByteArray), .int .i64 0, .slice none 0 0, .int .i64 ((rd_T61 l0 x9_1).f3)]) ?_ 1 _ rfl; (with_reducible repeat (first | refine blk_drewN ?_ _ | refine blk_drew ?_ | refine blk_alloc ?_ _)); refine blk_put (cs := #[.int .u8 ((rd_T61 l0 x9_1).f0), .string (⟨#[]⟩ : ByteArray), .int .i64 0, .slice none 0 0, .int .i64 0]) ?_ 4 _ rfl; (with_reducible repeat (first | refine blk_drewN ?_ _ | refine blk_drew ?_ | refine blk_alloc ?_ _)); refine blk_put (cs := #[.int .u8 ((rd_T61 l0 x9_1).f0), .string (⟨#[]⟩ : ByteArray), .int .i64 0, .slice none 0 0, .int .i64 0]) ?_ 3 _ rfl; (with_reducible repeat (first | refine blk_drewN ?_ _ | refine blk_drew ?_ | refine blk_alloc ?_ _)); refine blk_put (cs := #[.int .u8 ((rd_T61 l0 x9_1).f0), .string (⟨#[]⟩ : ByteArray), .int .i64 0, .slice none 0 0, .int .i64 0]) ?_ 2 _ rfl; (with_reducible repeat (first | refine blk_drewN ?_ _ | refine blk_drew ?_ | refine blk_alloc ?_ _)); refine blk_put (cs := #[.int .u8 ((rd_T61 l0 x9_1).f0), .string (⟨#[]⟩ : ByteArray), .int .i64 0, .slice none 0 0, .int .i64 0]) ?_ 1 _ rfl; (with_reducible repeat (first | refine blk_drewN ?_ _ | refine blk_drew ?_ | refine blk_alloc ?_ _)); refine blk_put (cs := #[.int .u8 0, .string (⟨#[]⟩ : ByteArray), .int .i64 0, .slice none 0 0, .int .i64 0]) ?_ 0 _ rfl; (with_reducible repeat (first | refine blk_drewN ?_ _ | refine blk_drew ?_ | refine blk_alloc ?_ _)); exact BK141.out⟩, ⟨by repeat (first | (with_reducible first | exact HB.out | apply below_alloc | apply pw_below_drewN | apply below_drew1 | refine below_set ?_ GE130.out | refine below_set ?_ GE141.out) | exact HB.out)⟩⟩
             ·rw [if_neg c47] at H
              have c47b0 : (((rd_T61 l0 x9_1).f0) == 3) = false := beq_eq_false_iff_ne.mpr c47
              have c47b1 : (((rd_T61 l0 x9_1).f0) != 3) = true := bne_iff_ne.mpr c47
              (first | rw [c47b0] | (simp only [i64_w, i32_w]; rw [c47b0]) | skip)
              by_cases c51 : ((rd_T61 l0 x9_1).f0) = 4
              ·rw [if_pos c51] at H
               have c51b0 : (((rd_T61 l0 x9_1).f0) == 4) = true := beq_iff_eq.mpr c51
               have c51b1 : (((rd_T61 l0 x9_1).f0) != 4) = false := bne_eq_false_iff_eq.mpr c51
               clear c51
               have H' := Aside0.mk H
               clear H
               have hnb52 := NB130_141.out
               have hnc52 := NB141_130.out
               have hcz53_0 : w43.cell? ⟨gb130, 0, none⟩ = some (.int .u8 ((rd_T61 l0 x9_1).f0)) := (blk_cell BK130.out 0).trans rfl
               have hcz53_1 : w43.cell? ⟨gb130, 1, none⟩ = some (.string ((rd_T61 l0 x9_1).f1)) := (blk_cell BK130.out 1).trans rfl
               have hcz53_2 : w43.cell? ⟨gb130, 2, none⟩ = some (.int .i64 ((rd_T61 l0 x9_1).f2)) := (blk_cell BK130.out 2).trans rfl
               have hcz53_3 : w43.cell? ⟨gb130, 3, none⟩ = some (.int .i64 ((rd_T61 l0 x9_1).f3)) := (blk_cell BK130.out 3).trans rfl
               have hfz53_0 := blk_frozen BK130.out 0
               have hfz53_1 := blk_frozen BK130.out 1
               have hfz53_2 := blk_frozen BK130.out 2
               have hfz53_3 := blk_frozen BK130.out 3
               have hcz54_0 : w43.cell? ⟨gb141, 0, none⟩ = some (.int .u8 0) := (blk_cell BK141.out 0).trans rfl
               have hcz54_1 : w43.cell? ⟨gb141, 1, none⟩ = some (.string (⟨#[]⟩ : ByteArray)) := (blk_cell BK141.out 1).trans rfl
               have hcz54_2 : w43.cell? ⟨gb141, 2, none⟩ = some (.int .i64 0) := (blk_cell BK141.out 2).trans rfl
               have hcz54_3 : w43.cell? ⟨gb141, 3, none⟩ = some (.slice none 0 0) := (blk_cell BK141.out 3).trans rfl
               have hcz54_4 : w43.cell? ⟨gb141, 4, none⟩ = some (.int .i64 0) := (blk_cell BK141.out 4).trans rfl
               have hfz54_0 := blk_frozen BK141.out 0
               have hfz54_1 := blk_frozen BK141.out 1
               have hfz54_2 := blk_frozen BK141.out 2
               have hfz54_3 := blk_frozen BK141.out 3
               have hfz54_4 := blk_frozen BK141.out 4
               go_wp2
               repeat (go_quiet (fail); try go_wp2)
               go_meet
               case rel => exact ⟨_, ((⟨#[]⟩ : ByteArray)), (((rd_T61 l0 x9_1).f2)), H', ⟨by have := HK1.out; have := HJ19.out; have := HJ28.out; first | omega | exact Nat.le_refl _⟩, ⟨by (with_reducible repeat (first | apply Kd.S_alloc | apply Kd.S_drewN | apply Kd.S_drew)); exact Kd.S_mono (Kd.S_far (p := ⟨gb141, 2, none⟩) (Kd.S_far (p := ⟨gb141, 4, none⟩) (Kd.S_far (p := ⟨gb141, 3, none⟩) (Kd.S_far (p := ⟨gb141, 2, none⟩) (Kd.S_far (p := ⟨gb141, 1, none⟩) (Kd.S_far (p := ⟨gb141, 0, none⟩) (Kd.S_mono HO_6.out (fun k_ hk => (⟨hk, hk.2⟩ : _ ∧ k_ ≠ gb141))) (fun _ hk => hk.2) (.int .u8 ((rd_T61 l0 x9_1).f0))) (fun _ hk => hk.2) (.string (⟨#[]⟩ : ByteArray))) (fun _ hk => hk.2) (.int .i64 0)) (fun _ hk => hk.2) (.slice none 0 0)) (fun _ hk => hk.2) (.int .i64 ((rd_T61 l0 x9_1).f3))) (fun _ hk => hk.2) (.int .i64 ((rd_T61 l0 x9_1).f2))) (fun _ hk => ⟨hk.1.1.1, ⟨hk.1.1.2, hk.1.2⟩⟩)⟩, ⟨by (with_reducible repeat (first | apply Kd.R_alloc | apply Kd.R_drewN | apply Kd.R_drew)); exact Kd.R_mono (Kd.R_far (p := ⟨gb141, 2, none⟩) (Kd.R_far (p := ⟨gb141, 4, none⟩) (Kd.R_far (p := ⟨gb141, 3, none⟩) (Kd.R_far (p := ⟨gb141, 2, none⟩) (Kd.R_far (p := ⟨gb141, 1, none⟩) (Kd.R_far (p := ⟨gb141, 0, none⟩) (Kd.R_types HO_7.out BK141.out (by decide)) (fun _ hk => hk.2) (.int .u8 ((rd_T61 l0 x9_1).f0))) (fun _ hk => hk.2) (.string (⟨#[]⟩ : ByteArray))) (fun _ hk => hk.2) (.int .i64 0)) (fun _ hk => hk.2) (.slice none 0 0)) (fun _ hk => hk.2) (.int .i64 ((rd_T61 l0 x9_1).f3))) (fun _ hk => hk.2) (.int .i64 ((rd_T61 l0 x9_1).f2))) (fun _ hk => hk.1)⟩, ⟨by (with_reducible repeat (first | apply Kd.R_alloc | apply Kd.R_drewN | apply Kd.R_drew)); exact Kd.R_mono (Kd.R_far (p := ⟨gb141, 2, none⟩) (Kd.R_far (p := ⟨gb141, 4, none⟩) (Kd.R_far (p := ⟨gb141, 3, none⟩) (Kd.R_far (p := ⟨gb141, 2, none⟩) (Kd.R_far (p := ⟨gb141, 1, none⟩) (Kd.R_far (p := ⟨gb141, 0, none⟩) (Kd.R_types HO_8.out BK141.out (by decide)) (fun _ hk => hk.2) (.int .u8 ((rd_T61 l0 x9_1).f0))) (fun _ hk => hk.2) (.string (⟨#[]⟩ : ByteArray))) (fun _ hk => hk.2) (.int .i64 0)) (fun _ hk => hk.2) (.slice none 0 0)) (fun _ hk => hk.2) (.int .i64 ((rd_T61 l0 x9_1).f3))) (fun _ hk => hk.2) (.int .i64 ((rd_T61 l0 x9_1).f2))) (fun _ hk => hk.1)⟩, ⟨by (with_reducible repeat (first | refine blk_drewN ?_ _ | refine blk_drew ?_ | refine blk_alloc ?_ _)); refine blk_far ?_ NB130_141.out _; (with_reducible repeat (first | refine blk_drewN ?_ _ | refine blk_drew ?_ | refine blk_alloc ?_ _)); refine blk_far ?_ NB130_141.out _; (with_reducible repeat (first | refine blk_drewN ?_ _ | refine blk_drew ?_ | refine blk_alloc ?_ _)); refine blk_far ?_ NB130_141.out _; (with_reducible repeat (first | refine blk_drewN ?_ _ | refine blk_drew ?_ | refine blk_alloc ?_ _)); refine blk_far ?_ NB130_141.out _; (with_reducible repeat (first | refine blk_drewN ?_ _ | refine blk_drew ?_ | refine blk_alloc ?_ _)); refine blk_far ?_ NB130_141.out _; (with_reducible repeat (first | refine blk_drewN ?_ _ | refine blk_drew ?_ | refine blk_alloc ?_ _)); refine blk_far ?_ NB130_141.out _; (with_reducible repeat (first | refine blk_drewN ?_ _ | refine blk_drew ?_ | refine blk_alloc ?_ _)); exact BK130.out⟩, ⟨by (with_reducible repeat (first | refine blk_drewN ?_ _ | refine blk_drew ?_ | refine blk_alloc ?_ _)); refine blk_put (cs := #[.int .u8 ((rd_T61 l0 x9_1).f0), .string (⟨#[]⟩ : ByteArray), .int .i64 0, .slice none 0 0, .int .i64 ((rd_T61 l0 x9_1).f3)]) ?_ 2 _ rfl; (with_reducible repeat (first | refine blk_drewN ?_ _ | refine blk_drew ?_ | refine blk_alloc ?_ _)); refine blk_put (cs := #[.int .u8 ((rd_T61 l0 x9_1).f0), .string (⟨#[]⟩ : ByteArray), .int .i64 0, .slice none 0 0, .int .i64 0]) ?_ 4 _ rfl; (with_reducible repeat (first | refine blk_drewN ?_ _ | refine blk_drew ?_ | refine blk_alloc ?_ _)); refine blk_put (cs := #[.int .u8 ((rd_T61 l0 x9_1).f0), .string (⟨#[]⟩ : ByteArray), .int .i64 0, .slice none 0 0, .int .i64 0]) ?_ 3 _ rfl; (with_reducible repeat (first | refine blk_drewN ?_ _ | refine blk_drew ?_ | refine blk_alloc ?_ _)); refine blk_put (cs := #[.int .u8 ((rd_T61 l0 x9_1).f0), .string (⟨#[]⟩ : ByteArray), .int .i64 0, .slice none 0 0, .int .i64 0]) ?_ 2 _ rfl; (with_reducible repeat (first | refine blk_drewN ?_ _ | refine blk_drew ?_ | refine blk_alloc ?_ _)); refine blk_put (cs := #[.int .u8 ((rd_T61 l0 x9_1).f0), .string (⟨#[]⟩ : ByteArray), .int .i64 0, .slice none 0 0, .int .i64 0]) ?_ 1 _ rfl; (with_reducible repeat (first | refine blk_drewN ?_ _ | refine blk_drew ?_ | refine blk_alloc ?_ _)); refine blk_put (cs := #[.int .u8 0, .string (⟨#[]⟩ : ByteArray), .int .i64 0, .slice none 0 0, .int .i64 0]) ?_ 0 _ rfl; (with_reducible repeat (first | refine blk_drewN ?_ _ | refine blk_drew ?_ | refine blk_alloc ?_ _)); exact BK141.out⟩, ⟨by repeat (first | (with_reducible first | exact HB.out | apply below_alloc | apply pw_below_drewN | apply below_drew1 | refine below_set ?_ GE130.out | refine below_set ?_ GE141.out) | exact HB.out)⟩⟩
              ·rw [if_neg c51] at H
               have c51b0 : (((rd_T61 l0 x9_1).f0) == 4) = false := beq_eq_false_iff_ne.mpr c51
               have c51b1 : (((rd_T61 l0 x9_1).f0) != 4) = true := bne_iff_ne.mpr c51
               have H' := Aside0.mk H
               clear H
               go_wp2
               repeat (go_quiet (fail); try go_wp2)
               go_meet
               case rel => exact ⟨_, ((⟨#[]⟩ : ByteArray)), (0), H', ⟨by have := HK1.out; have := HJ19.out; have := HJ28.out; first | omega | exact Nat.le_refl _⟩, ⟨by (with_reducible repeat (first | apply Kd.S_alloc | apply Kd.S_drewN | apply Kd.S_drew)); exact Kd.S_mono (Kd.S_far (p := ⟨gb141, 4, none⟩) (Kd.S_far (p := ⟨gb141, 3, none⟩) (Kd.S_far (p := ⟨gb141, 2, none⟩) (Kd.S_far (p := ⟨gb141, 1, none⟩) (Kd.S_far (p := ⟨gb141, 0, none⟩) (Kd.S_mono HO_6.out (fun k_ hk => (⟨hk, hk.2⟩ : _ ∧ k_ ≠ gb141))) (fun _ hk => hk.2) (.int .u8 ((rd_T61 l0 x9_1).f0))) (fun _ hk => hk.2) (.string (⟨#[]⟩ : ByteArray))) (fun _ hk => hk.2) (.int .i64 0)) (fun _ hk => hk.2) (.slice none 0 0)) (fun _ hk => hk.2) (.int .i64 ((rd_T61 l0 x9_1).f3))) (fun _ hk => ⟨hk.1.1.1, ⟨hk.1.1.2, hk.1.2⟩⟩)⟩, ⟨by (with_reducible repeat (first | apply Kd.R_alloc | apply Kd.R_drewN | apply Kd.R_drew)); exact Kd.R_mono (Kd.R_far (p := ⟨gb141, 4, none⟩) (Kd.R_far (p := ⟨gb141, 3, none⟩) (Kd.R_far (p := ⟨gb141, 2, none⟩) (Kd.R_far (p := ⟨gb141, 1, none⟩) (Kd.R_far (p := ⟨gb141, 0, none⟩) (Kd.R_types HO_7.out BK141.out (by decide)) (fun _ hk => hk.2) (.int .u8 ((rd_T61 l0 x9_1).f0))) (fun _ hk => hk.2) (.string (⟨#[]⟩ : ByteArray))) (fun _ hk => hk.2) (.int .i64 0)) (fun _ hk => hk.2) (.slice none 0 0)) (fun _ hk => hk.2) (.int .i64 ((rd_T61 l0 x9_1).f3))) (fun _ hk => hk.1)⟩, ⟨by (with_reducible repeat (first | apply Kd.R_alloc | apply Kd.R_drewN | apply Kd.R_drew)); exact Kd.R_mono (Kd.R_far (p := ⟨gb141, 4, none⟩) (Kd.R_far (p := ⟨gb141, 3, none⟩) (Kd.R_far (p := ⟨gb141, 2, none⟩) (Kd.R_far (p := ⟨gb141, 1, none⟩) (Kd.R_far (p := ⟨gb141, 0, none⟩) (Kd.R_types HO_8.out BK141.out (by decide)) (fun _ hk => hk.2) (.int .u8 ((rd_T61 l0 x9_1).f0))) (fun _ hk => hk.2) (.string (⟨#[]⟩ : ByteArray))) (fun _ hk => hk.2) (.int .i64 0)) (fun _ hk => hk.2) (.slice none 0 0)) (fun _ hk => hk.2) (.int .i64 ((rd_T61 l0 x9_1).f3))) (fun _ hk => hk.1)⟩, ⟨by (with_reducible repeat (first | refine blk_drewN ?_ _ | refine blk_drew ?_ | refine blk_alloc ?_ _)); refine blk_far ?_ NB130_141.out _; (with_reducible repeat (first | refine blk_drewN ?_ _ | refine blk_drew ?_ | refine blk_alloc ?_ _)); refine blk_far ?_ NB130_141.out _; (with_reducible repeat (first | refine blk_drewN ?_ _ | refine blk_drew ?_ | refine blk_alloc ?_ _)); refine blk_far ?_ NB130_141.out _; (with_reducible repeat (first | refine blk_drewN ?_ _ | refine blk_drew ?_ | refine blk_alloc ?_ _)); refine blk_far ?_ NB130_141.out _; (with_reducible repeat (first | refine blk_drewN ?_ _ | refine blk_drew ?_ | refine blk_alloc ?_ _)); refine blk_far ?_ NB130_141.out _; (with_reducible repeat (first | refine blk_drewN ?_ _ | refine blk_drew ?_ | refine blk_alloc ?_ _)); exact BK130.out⟩, ⟨by (with_reducible repeat (first | refine blk_drewN ?_ _ | refine blk_drew ?_ | refine blk_alloc ?_ _)); refine blk_put (cs := #[.int .u8 ((rd_T61 l0 x9_1).f0), .string (⟨#[]⟩ : ByteArray), .int .i64 0, .slice none 0 0, .int .i64 0]) ?_ 4 _ rfl; (with_reducible repeat (first | refine blk_drewN ?_ _ | refine blk_drew ?_ | refine blk_alloc ?_ _)); refine blk_put (cs := #[.int .u8 ((rd_T61 l0 x9_1).f0), .string (⟨#[]⟩ : ByteArray), .int .i64 0, .slice none 0 0, .int .i64 0]) ?_ 3 _ rfl; (with_reducible repeat (first | refine blk_drewN ?_ _ | refine blk_drew ?_ | refine blk_alloc ?_ _)); refine blk_put (cs := #[.int .u8 ((rd_T61 l0 x9_1).f0), .string (⟨#[]⟩ : ByteArray), .int .i64 0, .slice none 0 0, .int .i64 0]) ?_ 2 _ rfl; (with_reducible repeat (first | refine blk_drewN ?_ _ | refine blk_drew ?_ | refine blk_alloc ?_ _)); refine blk_put (cs := #[.int .u8 ((rd_T61 l0 x9_1).f0), .string (⟨#[]⟩ : ByteArray), .int .i64 0, .slice none 0 0, .int .i64 0]) ?_ 1 _ rfl; (with_reducible repeat (first | refine blk_drewN ?_ _ | refine blk_drew ?_ | refine blk_alloc ?_ _)); refine blk_put (cs := #[.int .u8 0, .string (⟨#[]⟩ : ByteArray), .int .i64 0, .slice none 0 0, .int .i64 0]) ?_ 0 _ rfl; (with_reducible repeat (first | refine blk_drewN ?_ _ | refine blk_drew ?_ | refine blk_alloc ?_ _)); exact BK141.out⟩, ⟨by repeat (first | (with_reducible first | exact HB.out | apply below_alloc | apply pw_below_drewN | apply below_drew1 | refine below_set ?_ GE130.out | refine below_set ?_ GE141.out) | exact HB.out)⟩⟩
            case rest =>
             clear HC41
             try clear c1
             try clear p1
             try clear q1
             try clear hx1
             try clear c2
             try clear c2b0
             try clear p2
             try clear c3
             try clear c3b0
             try clear c4
             try clear c4b0
             try clear c4b1
             try clear c5
             try clear c5b0
             try clear c5b1
             try clear c5b2
             try clear p6
             try clear c10
             try clear c10b0
             try clear c10b1
             try clear c11
             try clear c11b0
             try clear c11b1
             try clear c12
             try clear p12
             try clear q12
             try clear hx12
             try clear q18
             try clear c23
             try clear c23b0
             try clear c23b1
             try clear c25
             try clear c25b0
             try clear c25b1
             try clear c28
             try clear c30
             try clear c30b0
             try clear c30b1
             try clear c31
             try clear c31b0
             try clear c31b1
             try clear c39
             try clear c44
             try clear c47
             try clear c47b0
             try clear c47b1
             try clear c48
             try clear c51
             try clear c51b0
             try clear c51b1
             try clear c52
             try clear hcz14_0
             try clear hcz14_1
             try clear hcz14_2
             try clear hcz14_3
             try clear hcz22_0
             try clear hcz22_1
             try clear hcz22_2
             try clear hcz22_3
             try clear hcz24_0
             try clear hcz24_1
             try clear hcz24_2
             try clear hcz24_3
             try clear hcz26_0
             try clear hcz26_1
             try clear hcz26_2
             try clear hcz26_3
             try clear hcz27_0
             try clear hcz27_1
             try clear hcz27_2
             try clear hcz27_3
             try clear hcz32_0
             try clear hcz32_1
             try clear hcz32_2
             try clear hcz32_3
             try clear hcz34_0
             try clear hcz34_1
             try clear hcz34_2
             try clear hcz34_3
             try clear hcz37_0
             try clear hcz37_1
             try clear hcz37_2
             try clear hcz37_3
             try clear hcz40_0
             try clear hcz40_1
             try clear hcz40_2
             try clear hcz40_3
             try clear hcz42_0
             try clear hcz42_1
             try clear hcz42_2
             try clear hcz42_3
             try clear hcz45_0
             try clear hcz45_1
             try clear hcz45_2
             try clear hcz45_3
             try clear hcz45_4
             try clear hcz46_0
             try clear hcz46_1
             try clear hcz46_2
             try clear hcz46_3
             try clear hcz49_0
             try clear hcz49_1
             try clear hcz49_2
             try clear hcz49_3
             try clear hcz50_0
             try clear hcz50_1
             try clear hcz50_2
             try clear hcz50_3
             try clear hcz50_4
             try clear hcz53_0
             try clear hcz53_1
             try clear hcz53_2
             try clear hcz53_3
             try clear hcz54_0
             try clear hcz54_1
             try clear hcz54_2
             try clear hcz54_3
             try clear hcz54_4
             try clear hcz7_0
             try clear hcz7_1
             try clear hcz7_2
             try clear hcz7_3
             try clear hfz14_0
             try clear hfz14_1
             try clear hfz14_2
             try clear hfz14_3
             try clear hfz22_0
             try clear hfz22_1
             try clear hfz22_2
             try clear hfz22_3
             try clear hfz24_0
             try clear hfz24_1
             try clear hfz24_2
             try clear hfz24_3
             try clear hfz26_0
             try clear hfz26_1
             try clear hfz26_2
             try clear hfz26_3
             try clear hfz27_0
             try clear hfz27_1
             try clear hfz27_2
             try clear hfz27_3
             try clear hfz32_0
             try clear hfz32_1
             try clear hfz32_2
             try clear hfz32_3
             try clear hfz34_0
             try clear hfz34_1
             try clear hfz34_2
             try clear hfz34_3
             try clear hfz37_0
             try clear hfz37_1
             try clear hfz37_2
             try clear hfz37_3
             try clear hfz40_0
             try clear hfz40_1
             try clear hfz40_2
             try clear hfz40_3
             try clear hfz42_0
             try clear hfz42_1
             try clear hfz42_2
             try clear hfz42_3
             try clear hfz45_0
             try clear hfz45_1
             try clear hfz45_2
             try clear hfz45_3
             try clear hfz45_4
             try clear hfz46_0
             try clear hfz46_1
             try clear hfz46_2
             try clear hfz46_3
             try clear hfz49_0
             try clear hfz49_1
             try clear hfz49_2
             try clear hfz49_3
             try clear hfz50_0
             try clear hfz50_1
             try clear hfz50_2
             try clear hfz50_3
             try clear hfz50_4
             try clear hfz53_0
             try clear hfz53_1
             try clear hfz53_2
             try clear hfz53_3
             try clear hfz54_0
             try clear hfz54_1
             try clear hfz54_2
             try clear hfz54_3
             try clear hfz54_4
             try clear hfz7_0
             try clear hfz7_1
             try clear hfz7_2
             try clear hfz7_3
             try clear hx129_0
             try clear hx129_1
             try clear hx129_2
             try clear hx129_3
             try clear p1
             try clear p12
             try clear p129
             try clear p2
             try clear p6
             try clear q1
             try clear q12
             try clear q129
             try clear q18
             obtain ⟨kq, x142001_40, x142002_40, HA, HJ40, HO_6, HO_7, HO_8, BK130, BK141, HB⟩ := hcut
             cases kq with
             | zero => exact absurd HA.out (by simp [reticuleref07_Parse.j3])
             | succ kj40 =>
              have H := HA.out
              clear HA
              simp only [reticuleref07_Parse.j3] at H
              by_cases c55 : x6_1.length < 2199023255552
              ·rw [if_pos c55] at H
               have LMc55 := Aside0.mk c55
               clear c55
               obtain ⟨y142, hy142⟩ : ∃ y_ : List (S33), y_ = (x6_1 ++ [(⟨((rd_T61 l0 x9_1).f0), x142001_40, x142002_40, ([] : List Int), ((rd_T61 l0 x9_1).f3)⟩ : S33)]) := ⟨_, rfl⟩
               replace H : (if (x8_1.length : Int) = 0 then (if x7_1.length < 17592186044416 then ((some (x7_1 ++ [(x6_1.length : Int)] : List Int)).bind fun y145 => (if ((rd_T61 l0 x9_1).f0) = 1 then ((some (([] : List Int) : List Int)).bind fun y148 => (if y148.length + x8_1.length < 17592186044416 then ((some (y148 ++ x8_1 : List Int)).bind fun y151 => (if y151.length < 17592186044416 then (reticuleref07_Parse.l0 kj40 l0 y142 y145 (y151 ++ [(x6_1.length : Int)]) (wrap64 (x9_1 + 1))) else (none))) else (none))) else (reticuleref07_Parse.l0 kj40 l0 y142 y145 x8_1 (wrap64 (x9_1 + 1))))) else (none)) else (if 0 ≤ (wrap64 ((x8_1.length : Int) - 1)) then (if (wrap64 ((x8_1.length : Int) - 1)) < (x8_1.length : Int) then ((some (([] : List Int) : List Int)).bind fun y158 => (if 0 ≤ (rd x8_1 (wrap64 ((x8_1.length : Int) - 1))) then (if (rd x8_1 (wrap64 ((x8_1.length : Int) - 1))) < (y142.length : Int) then (if y158.length + ((rd_T33 y142 (rd x8_1 (wrap64 ((x8_1.length : Int) - 1)))).f3).length < 17592186044416 then ((some (y158 ++ ((rd_T33 y142 (rd x8_1 (wrap64 ((x8_1.length : Int) - 1)))).f3) : List Int)).bind fun y162 => (if y162.length < 17592186044416 then ((some (y142.set ((rd x8_1 (wrap64 ((x8_1.length : Int) - 1))) : Int).toNat (⟨(rd_T33 y142 (rd x8_1 (wrap64 ((x8_1.length : Int) - 1)))).f0, (rd_T33 y142 (rd x8_1 (wrap64 ((x8_1.length : Int) - 1)))).f1, (rd_T33 y142 (rd x8_1 (wrap64 ((x8_1.length : Int) - 1)))).f2, (y162 ++ [(x6_1.length : Int)]), (rd_T33 y142 (rd x8_1 (wrap64 ((x8_1.length : Int) - 1)))).f4⟩ : S33) : List (S33))).bind fun y168 => (if ((rd_T61 l0 x9_1).f0) = 1 then ((some (([] : List Int) : List Int)).bind fun y169 => (if y169.length + x8_1.length < 17592186044416 then ((some (y169 ++ x8_1 : List Int)).bind fun y172 => (if y172.length < 17592186044416 then (reticuleref07_Parse.l0 kj40 l0 y168 x7_1 (y172 ++ [(x6_1.length : Int)]) (wrap64 (x9_1 + 1))) else (none))) else (none))) else (reticuleref07_Parse.l0 kj40 l0 y168 x7_1 x8_1 (wrap64 (x9_1 + 1))))) else (none))) else (none)) else (none)) else (none))) else (none)) else (none))) = some (r1, r2, r3, r4) := by first | (rw [hy142]; with_reducible exact H) | (have H2_ := (Option.bind_some _ _).symm.trans H; rw [hy142]; with_reducible exact H2_) | (have H2_ := (Option.bind_some _ _).symm.trans H; with_reducible exact H2_) | with_reducible exact H | (rw [hy142]; exact H) | exact H
               have Ny142 := Aside0.mk hy142
               clear hy142
               by_cases c56 : (x8_1.length : Int) = 0
               ·rw [if_pos c56] at H
                have c56b0 : ((x8_1.length : Int) == 0) = true := beq_iff_eq.mpr c56
                have c56b1 : ((x8_1.length : Int) != 0) = false := bne_eq_false_iff_eq.mpr c56
                clear c56
                by_cases c57 : x7_1.length < 17592186044416
                ·rw [if_pos c57] at H
                 have LMc57 := Aside0.mk c57
                 clear c57
                 obtain ⟨y145, hy145⟩ : ∃ y_ : List Int, y_ = (x7_1 ++ [(x6_1.length : Int)]) := ⟨_, rfl⟩
                 replace H : (if ((rd_T61 l0 x9_1).f0) = 1 then ((some (([] : List Int) : List Int)).bind fun y148 => (if y148.length + x8_1.length < 17592186044416 then ((some (y148 ++ x8_1 : List Int)).bind fun y151 => (if y151.length < 17592186044416 then (reticuleref07_Parse.l0 kj40 l0 y142 y145 (y151 ++ [(x6_1.length : Int)]) (wrap64 (x9_1 + 1))) else (none))) else (none))) else (reticuleref07_Parse.l0 kj40 l0 y142 y145 x8_1 (wrap64 (x9_1 + 1)))) = some (r1, r2, r3, r4) := by first | (rw [hy145]; with_reducible exact H) | (have H2_ := (Option.bind_some _ _).symm.trans H; rw [hy145]; with_reducible exact H2_) | (have H2_ := (Option.bind_some _ _).symm.trans H; with_reducible exact H2_) | with_reducible exact H | (rw [hy145]; exact H) | exact H
                 have Ny145 := Aside0.mk hy145
                 clear hy145
                 by_cases c58 : ((rd_T61 l0 x9_1).f0) = 1
                 ·rw [if_pos c58] at H
                  have c58b0 : (((rd_T61 l0 x9_1).f0) == 1) = true := beq_iff_eq.mpr c58
                  have c58b1 : (((rd_T61 l0 x9_1).f0) != 1) = false := bne_eq_false_iff_eq.mpr c58
                  clear c58
                  obtain ⟨y148, hy148⟩ : ∃ y_ : List Int, y_ = (([] : List Int)) := ⟨_, rfl⟩
                  replace H : (if y148.length + x8_1.length < 17592186044416 then ((some (y148 ++ x8_1 : List Int)).bind fun y151 => (if y151.length < 17592186044416 then (reticuleref07_Parse.l0 kj40 l0 y142 y145 (y151 ++ [(x6_1.length : Int)]) (wrap64 (x9_1 + 1))) else (none))) else (none)) = some (r1, r2, r3, r4) := by first | (rw [hy148]; with_reducible exact H) | (have H2_ := (Option.bind_some _ _).symm.trans H; rw [hy148]; with_reducible exact H2_) | (have H2_ := (Option.bind_some _ _).symm.trans H; with_reducible exact H2_) | with_reducible exact H | (rw [hy148]; exact H) | exact H
                  have Ny148 := Aside0.mk hy148
                  clear hy148
                  by_cases c59 : y148.length + x8_1.length < 17592186044416
                  ·rw [if_pos c59] at H
                   have LMc59 := Aside0.mk c59
                   clear c59
                   obtain ⟨y151, hy151⟩ : ∃ y_ : List Int, y_ = (y148 ++ x8_1) := ⟨_, rfl⟩
                   replace H : (if y151.length < 17592186044416 then (reticuleref07_Parse.l0 kj40 l0 y142 y145 (y151 ++ [(x6_1.length : Int)]) (wrap64 (x9_1 + 1))) else (none)) = some (r1, r2, r3, r4) := by first | (rw [hy151]; with_reducible exact H) | (have H2_ := (Option.bind_some _ _).symm.trans H; rw [hy151]; with_reducible exact H2_) | (have H2_ := (Option.bind_some _ _).symm.trans H; with_reducible exact H2_) | with_reducible exact H | (rw [hy151]; exact H) | exact H
                   have Ny151 := Aside0.mk hy151
                   clear hy151
                   by_cases c60 : y151.length < 17592186044416
                   ·rw [if_pos c60] at H
                    have LMc60 := Aside0.mk c60
                    clear c60
                    obtain ⟨y154, hy154⟩ : ∃ y_ : List Int, y_ = (y151 ++ [(x6_1.length : Int)]) := ⟨_, rfl⟩
                    replace H : (reticuleref07_Parse.l0 kj40 l0 y142 y145 y154 (wrap64 (x9_1 + 1))) = some (r1, r2, r3, r4) := by first | (rw [hy154]; with_reducible exact H) | (have H2_ := (Option.bind_some _ _).symm.trans H; rw [hy154]; with_reducible exact H2_) | (have H2_ := (Option.bind_some _ _).symm.trans H; with_reducible exact H2_) | with_reducible exact H | (rw [hy154]; exact H) | exact H
                    have Ny154 := Aside0.mk hy154
                    clear hy154
                    have H' := Aside0.mk H
                    clear H
                    obtain ⟨Ao61, co61, eo61⟩ := Kd.S_slice HO_6.out
                    subst eo61
                    have hnb62 := NB141_130.out
                    have hnc62 := NB130_141.out
                    have hcz63_0 : wc.cell? ⟨gb141, 0, none⟩ = some (.int .u8 ((rd_T61 l0 x9_1).f0)) := (blk_cell BK141.out 0).trans rfl
                    have hcz63_1 : wc.cell? ⟨gb141, 1, none⟩ = some (.string x142001_40) := (blk_cell BK141.out 1).trans rfl
                    have hcz63_2 : wc.cell? ⟨gb141, 2, none⟩ = some (.int .i64 x142002_40) := (blk_cell BK141.out 2).trans rfl
                    have hcz63_3 : wc.cell? ⟨gb141, 3, none⟩ = some (.slice none 0 0) := (blk_cell BK141.out 3).trans rfl
                    have hcz63_4 : wc.cell? ⟨gb141, 4, none⟩ = some (.int .i64 ((rd_T61 l0 x9_1).f3)) := (blk_cell BK141.out 4).trans rfl
                    have hfz63_0 := blk_frozen BK141.out 0
                    have hfz63_1 := blk_frozen BK141.out 1
                    have hfz63_2 := blk_frozen BK141.out 2
                    have hfz63_3 := blk_frozen BK141.out 3
                    have hfz63_4 := blk_frozen BK141.out 4
                    go_wp2_with (first | ((with_reducible refine gate_builtin (b := .append) (xs := #[.tmp 86, .tmp 88]) rfl ?_); (try (refine gate_guard (by rfl) ?_; dsimp only)); at_builtin; refine Kd.S_append k33 (w0 := w) w.heap.size rfl (.tmp 86) (.tmp 88) 22 33 (.agg #[(.int .u8 0), (.string ⟨#[]⟩), (.int .i64 0), (.slice none 0 0), (.int .i64 0)]) 64 rfl Try.underlying22 info33 rfl (by decide) (by omega) (.slice Ao61 x6_1.length co61) x6_1 (⟨((rd_T61 l0 x9_1).f0), x142001_40, x142002_40, ([] : List Int), ((rd_T61 l0 x9_1).f3)⟩ : S33) [.int .u8 ((rd_T61 l0 x9_1).f0), .string x142001_40, .int .i64 x142002_40, .slice none 0 0, .int .i64 ((rd_T61 l0 x9_1).f3)] (fun k_ => some k_ ≠ (u7 : Value).ownBlock ∧ some k_ ≠ (u8 : Value).ownBlock ∧ k_ ≠ gb141) (fun _ => False) rfl rfl ?aP (fun k_ hk_ => hk_.elim) ?aF ?aO ?aB ?aS ?aL ?_; (case aP => exact k33_mkM _ _ _ (⟨((rd_T61 l0 x9_1).f0), x142001_40, x142002_40, ([] : List Int), ((rd_T61 l0 x9_1).f3)⟩ : S33) (Kd.R_nil _ _ _ _ _)); (case aB => exact (by repeat (first | (with_reducible first | exact HB.out | apply below_alloc | apply pw_below_drewN | apply below_drew1 | refine below_set ?_ GE130.out | refine below_set ?_ GE141.out) | exact HB.out))); (case aF => exact (fun k_ hk => ⟨Kd.fresh' (Kd.R_lt (by (with_reducible repeat (first | apply Kd.R_alloc | apply Kd.R_drewN | apply Kd.R_drew)); exact HO_7.out)) k_ hk, Kd.fresh' (Kd.R_lt (by (with_reducible repeat (first | apply Kd.R_alloc | apply Kd.R_drewN | apply Kd.R_drew)); exact HO_8.out)) k_ hk, Kd.freshB (g := gb141) (o := .cells #[.int .u8 ((rd_T61 l0 x9_1).f0), .string x142001_40, .int .i64 x142002_40, .slice none 0 0, .int .i64 ((rd_T61 l0 x9_1).f3)] 33 (0, 0)) (by (with_reducible repeat (first | refine blk_drewN ?_ _ | refine blk_drew ?_ | refine blk_alloc ?_ _)); exact BK141.out) k_ hk⟩)); (case aO => exact (by (with_reducible repeat (first | apply Kd.S_alloc | apply Kd.S_drewN | apply Kd.S_drew)); exact Kd.S_mono HO_6.out (fun k_ hk => ⟨⟨hk.1, ⟨hk.2.1, hk.2.2⟩⟩, fun e_ => e_⟩))); (case aS => exact (below_size (by repeat (first | (with_reducible first | exact HB.out | apply below_alloc | apply pw_below_drewN | apply below_drew1 | refine below_set ?_ GE130.out | refine below_set ?_ GE141.out) | exact HB.out)))); (case aL => have := LMc55.out; omega); intro v143 w64 ho hb hg hat; rw [← Ny142.out] at ho; have n0_ := Aside0.mk (Kd.R_over' (by (with_reducible repeat (first | apply Kd.R_alloc | apply Kd.R_drewN | apply Kd.R_drew)); exact HO_7.out) (Kd.S_typed (by (with_reducible repeat (first | apply Kd.S_alloc | apply Kd.S_drewN | apply Kd.S_drew)); exact HO_6.out)) (by decide) hg); have n1_ := Aside0.mk (Kd.R_over' (by (with_reducible repeat (first | apply Kd.R_alloc | apply Kd.R_drewN | apply Kd.R_drew)); exact HO_8.out) (Kd.S_typed (by (with_reducible repeat (first | apply Kd.S_alloc | apply Kd.S_drewN | apply Kd.S_drew)); exact HO_6.out)) (by decide) hg); have n2_ := Aside0.mk (blk_grown (g := gb130) (o := .cells #[.int .u8 ((rd_T61 l0 x9_1).f0), .string ((rd_T61 l0 x9_1).f1), .int .i64 ((rd_T61 l0 x9_1).f2), .int .i64 ((rd_T61 l0 x9_1).f3)] 61 (0, 0)) (by (with_reducible repeat (first | refine blk_drewN ?_ _ | refine blk_drew ?_ | refine blk_alloc ?_ _)); exact BK130.out) hg (Kd.S_ne HO_6.out BK130.out (by decide))); have n3_ := Aside0.mk (blk_grown (g := gb141) (o := .cells #[.int .u8 ((rd_T61 l0 x9_1).f0), .string x142001_40, .int .i64 x142002_40, .slice none 0 0, .int .i64 ((rd_T61 l0 x9_1).f3)] 33 (0, 0)) (by (with_reducible repeat (first | refine blk_drewN ?_ _ | refine blk_drew ?_ | refine blk_alloc ?_ _)); exact BK141.out) hg (Kd.S_away HO_6.out (fun _ hk => hk.2.2))); have n4_ := Aside0.mk (hb); have n5_ := Aside0.mk (ho); clear HO_7; clear HO_8; clear BK130; clear BK141; clear HB; clear HO_6; have HO_7 := n0_; have HO_8 := n1_; have BK130 := n2_; have BK141 := n3_; have HB := n4_; have HO144 := n5_; clear n0_ n1_ n2_ n3_ n4_ n5_; clear ho hb hg hat; obtain ⟨Ao65, co65, eo65⟩ := Kd.R_slice HO_8.out; subst eo65) | ((with_reducible refine gate_builtin (b := .append) (xs := #[.tmp 93, .tmp 95]) rfl ?_); (try (refine gate_guard (by rfl) ?_; dsimp only)); at_builtin; refine Kd.R_append (Kd.int .i64) (w0 := w) w.heap.size rfl (.tmp 93) (.tmp 95) 23 3 (.int .i64 0) 8 rfl Try.underlying23 info3 rfl (by decide) (by omega) u7 x7_1 (x6_1.length : Int) [.int .i64 (x6_1.length : Int)] (fun k_ => some k_ ≠ (.slice Ao65 x8_1.length co65 : Value).ownBlock) (fun _ => False) rfl rfl ?aP (fun _ hk => hk.elim) ?aF ?aO ?aB ?aS ?aL ?_; (case aP => exact rfl); (case aB => exact (by repeat (first | (with_reducible first | exact HB.out | apply below_alloc | apply pw_below_drewN | apply below_drew1 | refine below_set ?_ GE130.out | refine below_set ?_ GE141.out) | exact HB.out))); (case aF => exact (fun k_ hk => Kd.fresh' (Kd.R_lt (by (with_reducible repeat (first | apply Kd.R_alloc | apply Kd.R_drewN | apply Kd.R_drew)); exact HO_8.out)) k_ hk)); (case aO => exact (by (with_reducible repeat (first | apply Kd.R_alloc | apply Kd.R_drewN | apply Kd.R_drew)); exact HO_7.out)); (case aS => exact (below_size (by repeat (first | (with_reducible first | exact HB.out | apply below_alloc | apply pw_below_drewN | apply below_drew1 | refine below_set ?_ GE130.out | refine below_set ?_ GE141.out) | exact HB.out)))); (case aL => have := LMc57.out; omega); intro v146 w66 ho hb hg hat; rw [← Ny145.out] at ho; have n0_ := Aside0.mk (Kd.R_after (ok := (fun _ => True)) (by (with_reducible repeat (first | apply Kd.R_alloc | apply Kd.R_drewN | apply Kd.R_drew)); exact Kd.R_mono HO_8.out (fun _ hk => ⟨trivial, hk⟩)) hg hat); have n1_ := Aside0.mk (blk_grown (g := gb130) (o := .cells #[.int .u8 ((rd_T61 l0 x9_1).f0), .string ((rd_T61 l0 x9_1).f1), .int .i64 ((rd_T61 l0 x9_1).f2), .int .i64 ((rd_T61 l0 x9_1).f3)] 61 (0, 0)) (by (with_reducible repeat (first | refine blk_drewN ?_ _ | refine blk_drew ?_ | refine blk_alloc ?_ _)); exact BK130.out) hg (Kd.R_ne HO_7.out BK130.out (by decide))); have n2_ := Aside0.mk (blk_grown (g := gb141) (o := .cells #[.int .u8 ((rd_T61 l0 x9_1).f0), .string x142001_40, .int .i64 x142002_40, .slice none 0 0, .int .i64 ((rd_T61 l0 x9_1).f3)] 33 (0, 0)) (by (with_reducible repeat (first | refine blk_drewN ?_ _ | refine blk_drew ?_ | refine blk_alloc ?_ _)); exact BK141.out) hg (Kd.R_ne HO_7.out BK141.out (by decide))); have n3_ := Aside0.mk (Kd.S_after (ok := (fun k_ => some k_ ≠ (.slice Ao65 x8_1.length co65 : Value).ownBlock ∧ k_ ≠ gb141)) (by (with_reducible repeat (first | apply Kd.S_alloc | apply Kd.S_drewN | apply Kd.S_drew)); exact Kd.S_mono HO144.out (fun _ hk => ⟨⟨hk.2.1, hk.2.2⟩, hk.1⟩)) hg hat); have n4_ := Aside0.mk (hb); have n5_ := Aside0.mk (ho); clear HO_8; clear BK130; clear BK141; clear HO144; clear HB; clear HO_7; have HO_8 := n0_; have BK130 := n1_; have BK141 := n2_; have HO144 := n3_; have HB := n4_; have HO147 := n5_; clear n0_ n1_ n2_ n3_ n4_ n5_; clear ho hb hg hat; have hcz67_0 : w66.cell? ⟨gb130, 0, none⟩ = some (.int .u8 ((rd_T61 l0 x9_1).f0)) := (blk_cell BK130.out 0).trans rfl; have hcz67_1 : w66.cell? ⟨gb130, 1, none⟩ = some (.string ((rd_T61 l0 x9_1).f1)) := (blk_cell BK130.out 1).trans rfl; have hcz67_2 : w66.cell? ⟨gb130, 2, none⟩ = some (.int .i64 ((rd_T61 l0 x9_1).f2)) := (blk_cell BK130.out 2).trans rfl; have hcz67_3 : w66.cell? ⟨gb130, 3, none⟩ = some (.int .i64 ((rd_T61 l0 x9_1).f3)) := (blk_cell BK130.out 3).trans rfl; have hfz67_0 := blk_frozen BK130.out 0; have hfz67_1 := blk_frozen BK130.out 1; have hfz67_2 := blk_frozen BK130.out 2; have hfz67_3 := blk_frozen BK130.out 3) | ((with_reducible refine gate_dst (N := 120) rfl ?_); (try (refine gate_guard (by rfl) ?_; dsimp only)); refine Kd.R_lit (Kd.int .i64) _ 3 ?hg (N := 120) ?hd (xs := ([] : List Int)) (inner := []) (ok := fun _ => True) (okp := fun _ => True) ?hr ?hp (fun _ hk => hk) trivial (Below.refl _ _) (Nat.le_refl _) (by simp) ?_; (case hd => rfl); (case hg => rfl); (case hr => first | (go_simp; done) | (go_simp; rfl)); (case hp => exact (Reps.none _ _)); intro v149 w68 ho69 hb hg_ hnew_; clear hg_ hnew_; (first | rw [← Ny148.out] at ho69 | (simp only [Int.reduceToNat] at ho69; rw [← Ny148.out] at ho69)); have n0_ := Aside0.mk (Kd.R_elder' (by (with_reducible repeat (first | apply Kd.R_alloc | apply Kd.R_drewN | apply Kd.R_drew)); exact HO_8.out) (Kd.R_base ho69) hb); have n1_ := Aside0.mk (Kd.S_elder' (by (with_reducible repeat (first | apply Kd.S_alloc | apply Kd.S_drewN | apply Kd.S_drew)); exact HO144.out) (Kd.R_base ho69) hb); have n2_ := Aside0.mk (Kd.R_elder' (by (with_reducible repeat (first | apply Kd.R_alloc | apply Kd.R_drewN | apply Kd.R_drew)); exact HO147.out) (Kd.R_base ho69) hb); have n3_ := Aside0.mk (Kd.R_lower (Kd.R_new' (Kd.R_new' ho69 (Kd.R_lt (by (with_reducible repeat (first | apply Kd.R_alloc | apply Kd.R_drewN | apply Kd.R_drew)); exact HO_8.out))) (Kd.R_lt (by (with_reducible repeat (first | apply Kd.R_alloc | apply Kd.R_drewN | apply Kd.R_drew)); exact HO147.out))) (below_size (by repeat (first | (with_reducible first | exact HB.out | apply below_alloc | apply pw_below_drewN | apply below_drew1 | refine below_set ?_ GE130.out | refine below_set ?_ GE141.out) | exact HB.out)))); have n4_ := Aside0.mk (blk_below (g := gb130) (o := .cells #[.int .u8 ((rd_T61 l0 x9_1).f0), .string ((rd_T61 l0 x9_1).f1), .int .i64 ((rd_T61 l0 x9_1).f2), .int .i64 ((rd_T61 l0 x9_1).f3)] 61 (0, 0)) (by (with_reducible repeat (first | refine blk_drewN ?_ _ | refine blk_drew ?_ | refine blk_alloc ?_ _)); exact BK130.out) hb); have n5_ := Aside0.mk (blk_below (g := gb141) (o := .cells #[.int .u8 ((rd_T61 l0 x9_1).f0), .string x142001_40, .int .i64 x142002_40, .slice none 0 0, .int .i64 ((rd_T61 l0 x9_1).f3)] 33 (0, 0)) (by (with_reducible repeat (first | refine blk_drewN ?_ _ | refine blk_drew ?_ | refine blk_alloc ?_ _)); exact BK141.out) hb); have n6_ := Aside0.mk (below_step (by repeat (first | (with_reducible first | exact HB.out | apply below_alloc | apply pw_below_drewN | apply below_drew1 | refine below_set ?_ GE130.out | refine below_set ?_ GE141.out) | exact HB.out)) hb); clear HO_8; clear HO144; clear HO147; clear BK130; clear BK141; clear HB; have HO_8 := n0_; have HO144 := n1_; have HO147 := n2_; have HO150 := n3_; have BK130 := n4_; have BK141 := n5_; have HB := n6_; clear n0_ n1_ n2_ n3_ n4_ n5_ n6_; clear hb ho69) | ((with_reducible refine gate_builtin (b := .append) (xs := #[.tmp 120, .tmp 121]) rfl ?_); (try (refine gate_guard (by rfl) ?_; dsimp only)); at_builtin; refine Kd.R_append_rows (Kd.int .i64) (w0 := w) w.heap.size rfl (.tmp 120) (.tmp 121) 23 3 (.int .i64 0) 8 rfl Try.underlying23 info3 rfl (by decide) (by omega) v149 y148 x8_1 _ _ _ (fun k_ => some k_ ≠ (.slice Ao65 x8_1.length co65 : Value).ownBlock ∧ some k_ ≠ (v146 : Value).ownBlock) (fun _ => False) rfl rfl ?aO ?aR (fun _ _ h => h) (fun _ h => h.elim) ?aF ?aB ?aS ?aL ?_; (case aR => repeat (first | exact (Kd.R_reads' HO_8.out).2.2 | (with_reducible refine Kd.C_alloc ?_ _) | (with_reducible refine Kd.C_drewN ?_ _) | (with_reducible refine Kd.C_drew ?_))); (case aB => exact (by repeat (first | (with_reducible first | exact HB.out | apply below_alloc | apply pw_below_drewN | apply below_drew1 | refine below_set ?_ GE130.out | refine below_set ?_ GE141.out) | exact HB.out))); (case aF => exact (fun k_ hk => ⟨Kd.fresh' (Kd.R_lt (by (with_reducible repeat (first | apply Kd.R_alloc | apply Kd.R_drewN | apply Kd.R_drew)); exact HO_8.out)) k_ hk, Kd.fresh' (Kd.R_lt (by (with_reducible repeat (first | apply Kd.R_alloc | apply Kd.R_drewN | apply Kd.R_drew)); exact HO147.out)) k_ hk⟩)); (case aO => exact (by (with_reducible repeat (first | apply Kd.R_alloc | apply Kd.R_drewN | apply Kd.R_drew)); exact Kd.R_mono HO150.out (fun _ hk => ⟨hk.1.2, hk.2⟩))); (case aS => exact (below_size (by repeat (first | (with_reducible first | exact HB.out | apply below_alloc | apply pw_below_drewN | apply below_drew1 | refine below_set ?_ GE130.out | refine below_set ?_ GE141.out) | exact HB.out)))); (case aL => have := LMc59.out; omega); intro v152 w70 ho hb hg hat; rw [← Ny151.out] at ho; have n0_ := Aside0.mk (Kd.R_after (ok := (fun k_ => some k_ ≠ (v146 : Value).ownBlock)) (by (with_reducible repeat (first | apply Kd.R_alloc | apply Kd.R_drewN | apply Kd.R_drew)); exact Kd.R_mono HO_8.out (fun _ hk => ⟨hk.1.2, hk.2⟩)) hg hat); have n1_ := Aside0.mk (blk_grown (g := gb130) (o := .cells #[.int .u8 ((rd_T61 l0 x9_1).f0), .string ((rd_T61 l0 x9_1).f1), .int .i64 ((rd_T61 l0 x9_1).f2), .int .i64 ((rd_T61 l0 x9_1).f3)] 61 (0, 0)) (by (with_reducible repeat (first | refine blk_drewN ?_ _ | refine blk_drew ?_ | refine blk_alloc ?_ _)); exact BK130.out) hg (Kd.R_ne HO150.out BK130.out (by decide))); have n2_ := Aside0.mk (blk_grown (g := gb141) (o := .cells #[.int .u8 ((rd_T61 l0 x9_1).f0), .string x142001_40, .int .i64 x142002_40, .slice none 0 0, .int .i64 ((rd_T61 l0 x9_1).f3)] 33 (0, 0)) (by (with_reducible repeat (first | refine blk_drewN ?_ _ | refine blk_drew ?_ | refine blk_alloc ?_ _)); exact BK141.out) hg (Kd.R_ne HO150.out BK141.out (by decide))); have n3_ := Aside0.mk (Kd.S_after (ok := (fun k_ => some k_ ≠ (.slice Ao65 x8_1.length co65 : Value).ownBlock ∧ some k_ ≠ (v146 : Value).ownBlock ∧ k_ ≠ gb141)) (by (with_reducible repeat (first | apply Kd.S_alloc | apply Kd.S_drewN | apply Kd.S_drew)); exact Kd.S_mono HO144.out (fun _ hk => ⟨⟨hk.1.1.1, ⟨hk.1.2, hk.1.1.2⟩⟩, hk.2⟩)) hg hat); have n4_ := Aside0.mk (Kd.R_after (ok := (fun k_ => some k_ ≠ (.slice Ao65 x8_1.length co65 : Value).ownBlock)) (by (with_reducible repeat (first | apply Kd.R_alloc | apply Kd.R_drewN | apply Kd.R_drew)); exact HO147.out) hg hat); have n5_ := Aside0.mk (hb); have n6_ := Aside0.mk (ho); clear HO_8; clear BK130; clear BK141; clear HO144; clear HO147; clear HB; clear HO150; have HO_8 := n0_; have BK130 := n1_; have BK141 := n2_; have HO144 := n3_; have HO147 := n4_; have HB := n5_; have HO153 := n6_; clear n0_ n1_ n2_ n3_ n4_ n5_ n6_; clear ho hb hg hat) | ((with_reducible refine gate_builtin (b := .append) (xs := #[.tmp 122, .tmp 124]) rfl ?_); (try (refine gate_guard (by rfl) ?_; dsimp only)); at_builtin; refine Kd.R_append (Kd.int .i64) (w0 := w) w.heap.size rfl (.tmp 122) (.tmp 124) 23 3 (.int .i64 0) 8 rfl Try.underlying23 info3 rfl (by decide) (by omega) v152 y151 (x6_1.length : Int) [.int .i64 (x6_1.length : Int)] (fun k_ => some k_ ≠ (.slice Ao65 x8_1.length co65 : Value).ownBlock ∧ some k_ ≠ (v146 : Value).ownBlock) (fun _ => False) rfl rfl ?aP (fun _ hk => hk.elim) ?aF ?aO ?aB ?aS ?aL ?_; (case aP => exact rfl); (case aB => exact (by repeat (first | (with_reducible first | exact HB.out | apply below_alloc | apply pw_below_drewN | apply below_drew1 | refine below_set ?_ GE130.out | refine below_set ?_ GE141.out) | exact HB.out))); (case aF => exact (fun k_ hk => ⟨Kd.fresh' (Kd.R_lt (by (with_reducible repeat (first | apply Kd.R_alloc | apply Kd.R_drewN | apply Kd.R_drew)); exact HO_8.out)) k_ hk, Kd.fresh' (Kd.R_lt (by (with_reducible repeat (first | apply Kd.R_alloc | apply Kd.R_drewN | apply Kd.R_drew)); exact HO147.out)) k_ hk⟩)); (case aO => exact (by (with_reducible repeat (first | apply Kd.R_alloc | apply Kd.R_drewN | apply Kd.R_drew)); exact HO153.out)); (case aS => exact (below_size (by repeat (first | (with_reducible first | exact HB.out | apply below_alloc | apply pw_below_drewN | apply below_drew1 | refine below_set ?_ GE130.out | refine below_set ?_ GE141.out) | exact HB.out)))); (case aL => have := LMc60.out; omega); intro v155 w71 ho hb hg hat; rw [← Ny154.out] at ho; have n0_ := Aside0.mk (Kd.R_after (ok := (fun k_ => some k_ ≠ (v146 : Value).ownBlock)) (by (with_reducible repeat (first | apply Kd.R_alloc | apply Kd.R_drewN | apply Kd.R_drew)); exact HO_8.out) hg hat); have n1_ := Aside0.mk (blk_grown (g := gb130) (o := .cells #[.int .u8 ((rd_T61 l0 x9_1).f0), .string ((rd_T61 l0 x9_1).f1), .int .i64 ((rd_T61 l0 x9_1).f2), .int .i64 ((rd_T61 l0 x9_1).f3)] 61 (0, 0)) (by (with_reducible repeat (first | refine blk_drewN ?_ _ | refine blk_drew ?_ | refine blk_alloc ?_ _)); exact BK130.out) hg (Kd.R_ne HO153.out BK130.out (by decide))); have n2_ := Aside0.mk (blk_grown (g := gb141) (o := .cells #[.int .u8 ((rd_T61 l0 x9_1).f0), .string x142001_40, .int .i64 x142002_40, .slice none 0 0, .int .i64 ((rd_T61 l0 x9_1).f3)] 33 (0, 0)) (by (with_reducible repeat (first | refine blk_drewN ?_ _ | refine blk_drew ?_ | refine blk_alloc ?_ _)); exact BK141.out) hg (Kd.R_ne HO153.out BK141.out (by decide))); have n3_ := Aside0.mk (Kd.S_after (ok := (fun k_ => some k_ ≠ (.slice Ao65 x8_1.length co65 : Value).ownBlock ∧ some k_ ≠ (v146 : Value).ownBlock ∧ k_ ≠ gb141)) (by (with_reducible repeat (first | apply Kd.S_alloc | apply Kd.S_drewN | apply Kd.S_drew)); exact HO144.out) hg hat); have n4_ := Aside0.mk (Kd.R_after (ok := (fun k_ => some k_ ≠ (.slice Ao65 x8_1.length co65 : Value).ownBlock)) (by (with_reducible repeat (first | apply Kd.R_alloc | apply Kd.R_drewN | apply Kd.R_drew)); exact HO147.out) hg hat); have n5_ := Aside0.mk (hb); have n6_ := Aside0.mk (ho); clear HO_8; clear BK130; clear BK141; clear HO144; clear HO147; clear HB; clear HO153; have HO_8 := n0_; have BK130 := n1_; have BK141 := n2_; have HO144 := n3_; have HO147 := n4_; have HB := n5_; have HO156 := n6_; clear n0_ n1_ n2_ n3_ n4_ n5_ n6_; clear ho hb hg hat))
                    repeat (go_quiet (fail); try go_wp2)
                    go_roundg kj40
                    case measure => have := HK1.out; have := HJ19.out; have := HJ28.out; have := HJ40.out; omega
                    case rel => exact ⟨(y142), (y145), (y154), (wrap64 (x9_1 + 1)), (by first | rfl | (simp; done) | (simp [*]; done)), H', ⟨by have := HK1.out; have := HJ19.out; have := HJ28.out; have := HJ40.out; omega⟩, ⟨by (with_reducible repeat (first | apply Kd.S_alloc | apply Kd.S_drewN | apply Kd.S_drew)); exact Kd.S_mono HO144.out (fun _ hk => ⟨hk.1.2.1, hk.2⟩)⟩, ⟨by (with_reducible repeat (first | apply Kd.R_alloc | apply Kd.R_drewN | apply Kd.R_drew)); exact Kd.R_mono HO147.out (fun _ hk => hk.2)⟩, ⟨by (with_reducible repeat (first | apply Kd.R_alloc | apply Kd.R_drewN | apply Kd.R_drew)); exact Kd.R_mono HO156.out (fun _ hk => hk.2)⟩, ⟨by repeat (first | (with_reducible first | exact HB.out | apply below_alloc | apply pw_below_drewN | apply below_drew1 | refine below_set ?_ GE130.out | refine below_set ?_ GE141.out) | exact HB.out)⟩⟩
                   ·rw [if_neg c60] at H
                    exact absurd H (by simp)
                  ·rw [if_neg c59] at H
                   exact absurd H (by simp)
                 ·rw [if_neg c58] at H
                  have c58b0 : (((rd_T61 l0 x9_1).f0) == 1) = false := beq_eq_false_iff_ne.mpr c58
                  have c58b1 : (((rd_T61 l0 x9_1).f0) != 1) = true := bne_iff_ne.mpr c58
                  have H' := Aside0.mk H
                  clear H
                  obtain ⟨Ao72, co72, eo72⟩ := Kd.S_slice HO_6.out
                  subst eo72
                  have hnb73 := NB141_130.out
                  have hnc73 := NB130_141.out
                  have hcz74_0 : wc.cell? ⟨gb141, 0, none⟩ = some (.int .u8 ((rd_T61 l0 x9_1).f0)) := (blk_cell BK141.out 0).trans rfl
                  have hcz74_1 : wc.cell? ⟨gb141, 1, none⟩ = some (.string x142001_40) := (blk_cell BK141.out 1).trans rfl
                  have hcz74_2 : wc.cell? ⟨gb141, 2, none⟩ = some (.int .i64 x142002_40) := (blk_cell BK141.out 2).trans rfl
                  have hcz74_3 : wc.cell? ⟨gb141, 3, none⟩ = some (.slice none 0 0) := (blk_cell BK141.out 3).trans rfl
                  have hcz74_4 : wc.cell? ⟨gb141, 4, none⟩ = some (.int .i64 ((rd_T61 l0 x9_1).f3)) := (blk_cell BK141.out 4).trans rfl
                  have hfz74_0 := blk_frozen BK141.out 0
                  have hfz74_1 := blk_frozen BK141.out 1
                  have hfz74_2 := blk_frozen BK141.out 2
                  have hfz74_3 := blk_frozen BK141.out 3
                  have hfz74_4 := blk_frozen BK141.out 4
                  go_wp2_with (first | ((with_reducible refine gate_builtin (b := .append) (xs := #[.tmp 86, .tmp 88]) rfl ?_); (try (refine gate_guard (by rfl) ?_; dsimp only)); at_builtin; refine Kd.S_append k33 (w0 := w) w.heap.size rfl (.tmp 86) (.tmp 88) 22 33 (.agg #[(.int .u8 0), (.string ⟨#[]⟩), (.int .i64 0), (.slice none 0 0), (.int .i64 0)]) 64 rfl Try.underlying22 info33 rfl (by decide) (by omega) (.slice Ao72 x6_1.length co72) x6_1 (⟨((rd_T61 l0 x9_1).f0), x142001_40, x142002_40, ([] : List Int), ((rd_T61 l0 x9_1).f3)⟩ : S33) [.int .u8 ((rd_T61 l0 x9_1).f0), .string x142001_40, .int .i64 x142002_40, .slice none 0 0, .int .i64 ((rd_T61 l0 x9_1).f3)] (fun k_ => some k_ ≠ (u7 : Value).ownBlock ∧ some k_ ≠ (u8 : Value).ownBlock ∧ k_ ≠ gb141) (fun _ => False) rfl rfl ?aP (fun k_ hk_ => hk_.elim) ?aF ?aO ?aB ?aS ?aL ?_; (case aP => exact k33_mkM _ _ _ (⟨((rd_T61 l0 x9_1).f0), x142001_40, x142002_40, ([] : List Int), ((rd_T61 l0 x9_1).f3)⟩ : S33) (Kd.R_nil _ _ _ _ _)); (case aB => exact (by repeat (first | (with_reducible first | exact HB.out | apply below_alloc | apply pw_below_drewN | apply below_drew1 | refine below_set ?_ GE130.out | refine below_set ?_ GE141.out) | exact HB.out))); (case aF => exact (fun k_ hk => ⟨Kd.fresh' (Kd.R_lt (by (with_reducible repeat (first | apply Kd.R_alloc | apply Kd.R_drewN | apply Kd.R_drew)); exact HO_7.out)) k_ hk, Kd.fresh' (Kd.R_lt (by (with_reducible repeat (first | apply Kd.R_alloc | apply Kd.R_drewN | apply Kd.R_drew)); exact HO_8.out)) k_ hk, Kd.freshB (g := gb141) (o := .cells #[.int .u8 ((rd_T61 l0 x9_1).f0), .string x142001_40, .int .i64 x142002_40, .slice none 0 0, .int .i64 ((rd_T61 l0 x9_1).f3)] 33 (0, 0)) (by (with_reducible repeat (first | refine blk_drewN ?_ _ | refine blk_drew ?_ | refine blk_alloc ?_ _)); exact BK141.out) k_ hk⟩)); (case aO => exact (by (with_reducible repeat (first | apply Kd.S_alloc | apply Kd.S_drewN | apply Kd.S_drew)); exact Kd.S_mono HO_6.out (fun k_ hk => ⟨⟨hk.1, ⟨hk.2.1, hk.2.2⟩⟩, fun e_ => e_⟩))); (case aS => exact (below_size (by repeat (first | (with_reducible first | exact HB.out | apply below_alloc | apply pw_below_drewN | apply below_drew1 | refine below_set ?_ GE130.out | refine below_set ?_ GE141.out) | exact HB.out)))); (case aL => have := LMc55.out; omega); intro v143 w75 ho hb hg hat; rw [← Ny142.out] at ho; have n0_ := Aside0.mk (Kd.R_over' (by (with_reducible repeat (first | apply Kd.R_alloc | apply Kd.R_drewN | apply Kd.R_drew)); exact HO_7.out) (Kd.S_typed (by (with_reducible repeat (first | apply Kd.S_alloc | apply Kd.S_drewN | apply Kd.S_drew)); exact HO_6.out)) (by decide) hg); have n1_ := Aside0.mk (Kd.R_over' (by (with_reducible repeat (first | apply Kd.R_alloc | apply Kd.R_drewN | apply Kd.R_drew)); exact HO_8.out) (Kd.S_typed (by (with_reducible repeat (first | apply Kd.S_alloc | apply Kd.S_drewN | apply Kd.S_drew)); exact HO_6.out)) (by decide) hg); have n2_ := Aside0.mk (blk_grown (g := gb130) (o := .cells #[.int .u8 ((rd_T61 l0 x9_1).f0), .string ((rd_T61 l0 x9_1).f1), .int .i64 ((rd_T61 l0 x9_1).f2), .int .i64 ((rd_T61 l0 x9_1).f3)] 61 (0, 0)) (by (with_reducible repeat (first | refine blk_drewN ?_ _ | refine blk_drew ?_ | refine blk_alloc ?_ _)); exact BK130.out) hg (Kd.S_ne HO_6.out BK130.out (by decide))); have n3_ := Aside0.mk (blk_grown (g := gb141) (o := .cells #[.int .u8 ((rd_T61 l0 x9_1).f0), .string x142001_40, .int .i64 x142002_40, .slice none 0 0, .int .i64 ((rd_T61 l0 x9_1).f3)] 33 (0, 0)) (by (with_reducible repeat (first | refine blk_drewN ?_ _ | refine blk_drew ?_ | refine blk_alloc ?_ _)); exact BK141.out) hg (Kd.S_away HO_6.out (fun _ hk => hk.2.2))); have n4_ := Aside0.mk (hb); have n5_ := Aside0.mk (ho); clear HO_7; clear HO_8; clear BK130; clear BK141; clear HB; clear HO_6; have HO_7 := n0_; have HO_8 := n1_; have BK130 := n2_; have BK141 := n3_; have HB := n4_; have HO144 := n5_; clear n0_ n1_ n2_ n3_ n4_ n5_; clear ho hb hg hat; obtain ⟨Ao76, co76, eo76⟩ := Kd.R_slice HO_8.out; subst eo76) | ((with_reducible refine gate_builtin (b := .append) (xs := #[.tmp 93, .tmp 95]) rfl ?_); (try (refine gate_guard (by rfl) ?_; dsimp only)); at_builtin; refine Kd.R_append (Kd.int .i64) (w0 := w) w.heap.size rfl (.tmp 93) (.tmp 95) 23 3 (.int .i64 0) 8 rfl Try.underlying23 info3 rfl (by decide) (by omega) u7 x7_1 (x6_1.length : Int) [.int .i64 (x6_1.length : Int)] (fun k_ => some k_ ≠ (.slice Ao76 x8_1.length co76 : Value).ownBlock) (fun _ => False) rfl rfl ?aP (fun _ hk => hk.elim) ?aF ?aO ?aB ?aS ?aL ?_; (case aP => exact rfl); (case aB => exact (by repeat (first | (with_reducible first | exact HB.out | apply below_alloc | apply pw_below_drewN | apply below_drew1 | refine below_set ?_ GE130.out | refine below_set ?_ GE141.out) | exact HB.out))); (case aF => exact (fun k_ hk => Kd.fresh' (Kd.R_lt (by (with_reducible repeat (first | apply Kd.R_alloc | apply Kd.R_drewN | apply Kd.R_drew)); exact HO_8.out)) k_ hk)); (case aO => exact (by (with_reducible repeat (first | apply Kd.R_alloc | apply Kd.R_drewN | apply Kd.R_drew)); exact HO_7.out)); (case aS => exact (below_size (by repeat (first | (with_reducible first | exact HB.out | apply below_alloc | apply pw_below_drewN | apply below_drew1 | refine below_set ?_ GE130.out | refine below_set ?_ GE141.out) | exact HB.out)))); (case aL => have := LMc57.out; omega); intro v146 w77 ho hb hg hat; rw [← Ny145.out] at ho; have n0_ := Aside0.mk (Kd.R_after (ok := (fun _ => True)) (by (with_reducible repeat (first | apply Kd.R_alloc | apply Kd.R_drewN | apply Kd.R_drew)); exact Kd.R_mono HO_8.out (fun _ hk => ⟨trivial, hk⟩)) hg hat); have n1_ := Aside0.mk (blk_grown (g := gb130) (o := .cells #[.int .u8 ((rd_T61 l0 x9_1).f0), .string ((rd_T61 l0 x9_1).f1), .int .i64 ((rd_T61 l0 x9_1).f2), .int .i64 ((rd_T61 l0 x9_1).f3)] 61 (0, 0)) (by (with_reducible repeat (first | refine blk_drewN ?_ _ | refine blk_drew ?_ | refine blk_alloc ?_ _)); exact BK130.out) hg (Kd.R_ne HO_7.out BK130.out (by decide))); have n2_ := Aside0.mk (blk_grown (g := gb141) (o := .cells #[.int .u8 ((rd_T61 l0 x9_1).f0), .string x142001_40, .int .i64 x142002_40, .slice none 0 0, .int .i64 ((rd_T61 l0 x9_1).f3)] 33 (0, 0)) (by (with_reducible repeat (first | refine blk_drewN ?_ _ | refine blk_drew ?_ | refine blk_alloc ?_ _)); exact BK141.out) hg (Kd.R_ne HO_7.out BK141.out (by decide))); have n3_ := Aside0.mk (Kd.S_after (ok := (fun k_ => some k_ ≠ (.slice Ao76 x8_1.length co76 : Value).ownBlock ∧ k_ ≠ gb141)) (by (with_reducible repeat (first | apply Kd.S_alloc | apply Kd.S_drewN | apply Kd.S_drew)); exact Kd.S_mono HO144.out (fun _ hk => ⟨⟨hk.2.1, hk.2.2⟩, hk.1⟩)) hg hat); have n4_ := Aside0.mk (hb); have n5_ := Aside0.mk (ho); clear HO_8; clear BK130; clear BK141; clear HO144; clear HB; clear HO_7; have HO_8 := n0_; have BK130 := n1_; have BK141 := n2_; have HO144 := n3_; have HB := n4_; have HO147 := n5_; clear n0_ n1_ n2_ n3_ n4_ n5_; clear ho hb hg hat; have hcz78_0 : w77.cell? ⟨gb130, 0, none⟩ = some (.int .u8 ((rd_T61 l0 x9_1).f0)) := (blk_cell BK130.out 0).trans rfl; have hcz78_1 : w77.cell? ⟨gb130, 1, none⟩ = some (.string ((rd_T61 l0 x9_1).f1)) := (blk_cell BK130.out 1).trans rfl; have hcz78_2 : w77.cell? ⟨gb130, 2, none⟩ = some (.int .i64 ((rd_T61 l0 x9_1).f2)) := (blk_cell BK130.out 2).trans rfl; have hcz78_3 : w77.cell? ⟨gb130, 3, none⟩ = some (.int .i64 ((rd_T61 l0 x9_1).f3)) := (blk_cell BK130.out 3).trans rfl; have hfz78_0 := blk_frozen BK130.out 0; have hfz78_1 := blk_frozen BK130.out 1; have hfz78_2 := blk_frozen BK130.out 2; have hfz78_3 := blk_frozen BK130.out 3))
                  repeat (go_quiet (fail); try go_wp2)
                  go_roundg kj40
                  case measure => have := HK1.out; have := HJ19.out; have := HJ28.out; have := HJ40.out; omega
                  case rel => exact ⟨(y142), (y145), (x8_1), (wrap64 (x9_1 + 1)), (by first | rfl | (simp; done) | (simp [*]; done)), H', ⟨by have := HK1.out; have := HJ19.out; have := HJ28.out; have := HJ40.out; omega⟩, ⟨by (with_reducible repeat (first | apply Kd.S_alloc | apply Kd.S_drewN | apply Kd.S_drew)); exact Kd.S_mono HO144.out (fun _ hk => ⟨hk.2, hk.1.1⟩)⟩, ⟨by (with_reducible repeat (first | apply Kd.R_alloc | apply Kd.R_drewN | apply Kd.R_drew)); exact HO147.out⟩, ⟨by (with_reducible repeat (first | apply Kd.R_alloc | apply Kd.R_drewN | apply Kd.R_drew)); exact Kd.R_mono HO_8.out (fun _ hk => hk.2)⟩, ⟨by repeat (first | (with_reducible first | exact HB.out | apply below_alloc | apply pw_below_drewN | apply below_drew1 | refine below_set ?_ GE130.out | refine below_set ?_ GE141.out) | exact HB.out)⟩⟩
                ·rw [if_neg c57] at H
                 exact absurd H (by simp)
               ·rw [if_neg c56] at H
                have c56b0 : ((x8_1.length : Int) == 0) = false := beq_eq_false_iff_ne.mpr c56
                have c56b1 : ((x8_1.length : Int) != 0) = true := bne_iff_ne.mpr c56
                have c56b2 : ¬ (x8_1 = []) := fun h_ => c56 (by rw [h_]; rfl)
                obtain ⟨ji79, hji79⟩ : ∃ j_ : Int, (wrap64 ((x8_1.length : Int) - 1)) = j_ := ⟨_, rfl⟩
                replace H : (if 0 ≤ (ji79) then (if (ji79) < (x8_1.length : Int) then ((some (([] : List Int) : List Int)).bind fun y158 => (if 0 ≤ (rd x8_1 (ji79)) then (if (rd x8_1 (ji79)) < (y142.length : Int) then (if y158.length + ((rd_T33 y142 (rd x8_1 (ji79))).f3).length < 17592186044416 then ((some (y158 ++ ((rd_T33 y142 (rd x8_1 (ji79))).f3) : List Int)).bind fun y162 => (if y162.length < 17592186044416 then ((some (y142.set ((rd x8_1 (ji79)) : Int).toNat (⟨(rd_T33 y142 (rd x8_1 (ji79))).f0, (rd_T33 y142 (rd x8_1 (ji79))).f1, (rd_T33 y142 (rd x8_1 (ji79))).f2, (y162 ++ [(x6_1.length : Int)]), (rd_T33 y142 (rd x8_1 (ji79))).f4⟩ : S33) : List (S33))).bind fun y168 => (if ((rd_T61 l0 x9_1).f0) = 1 then ((some (([] : List Int) : List Int)).bind fun y169 => (if y169.length + x8_1.length < 17592186044416 then ((some (y169 ++ x8_1 : List Int)).bind fun y172 => (if y172.length < 17592186044416 then (reticuleref07_Parse.l0 kj40 l0 y168 x7_1 (y172 ++ [(x6_1.length : Int)]) (wrap64 (x9_1 + 1))) else (none))) else (none))) else (reticuleref07_Parse.l0 kj40 l0 y168 x7_1 x8_1 (wrap64 (x9_1 + 1))))) else (none))) else (none)) else (none)) else (none))) else (none)) else (none)) = some (r1, r2, r3, r4) := by first | (rw [hji79] at H; exact H) | (simp only [hji79] at H ⊢; exact H)
                have hji79w : (IntKind.i64.wrap ((x8_1.length : Int) - 1)) = ji79 := (i64_w _).trans hji79
                by_cases c80 : 0 ≤ (ji79)
                ·rw [if_pos c80] at H
                 have c80b0 : decide (0 ≤ (ji79)) = true := decide_eq_true c80
                 clear c80
                 by_cases c81 : (ji79) < (x8_1.length : Int)
                 ·rw [if_pos c81] at H
                  have c81b0 : decide ((ji79) < (x8_1.length : Int)) = true := decide_eq_true c81
                  clear c81
                  obtain ⟨y158, hy158⟩ : ∃ y_ : List Int, y_ = (([] : List Int)) := ⟨_, rfl⟩
                  replace H : (if 0 ≤ (rd x8_1 (ji79)) then (if (rd x8_1 (ji79)) < (y142.length : Int) then (if y158.length + ((rd_T33 y142 (rd x8_1 (ji79))).f3).length < 17592186044416 then ((some (y158 ++ ((rd_T33 y142 (rd x8_1 (ji79))).f3) : List Int)).bind fun y162 => (if y162.length < 17592186044416 then ((some (y142.set ((rd x8_1 (ji79)) : Int).toNat (⟨(rd_T33 y142 (rd x8_1 (ji79))).f0, (rd_T33 y142 (rd x8_1 (ji79))).f1, (rd_T33 y142 (rd x8_1 (ji79))).f2, (y162 ++ [(x6_1.length : Int)]), (rd_T33 y142 (rd x8_1 (ji79))).f4⟩ : S33) : List (S33))).bind fun y168 => (if ((rd_T61 l0 x9_1).f0) = 1 then ((some (([] : List Int) : List Int)).bind fun y169 => (if y169.length + x8_1.length < 17592186044416 then ((some (y169 ++ x8_1 : List Int)).bind fun y172 => (if y172.length < 17592186044416 then (reticuleref07_Parse.l0 kj40 l0 y168 x7_1 (y172 ++ [(x6_1.length : Int)]) (wrap64 (x9_1 + 1))) else (none))) else (none))) else (reticuleref07_Parse.l0 kj40 l0 y168 x7_1 x8_1 (wrap64 (x9_1 + 1))))) else (none))) else (none)) else (none)) else (none)) = some (r1, r2, r3, r4) := by first | (rw [hy158]; with_reducible exact H) | (have H2_ := (Option.bind_some _ _).symm.trans H; rw [hy158]; with_reducible exact H2_) | (have H2_ := (Option.bind_some _ _).symm.trans H; with_reducible exact H2_) | with_reducible exact H | (rw [hy158]; exact H) | exact H
                  have Ny158 := Aside0.mk hy158
                  clear hy158
                  by_cases c82 : 0 ≤ (rd x8_1 (ji79))
                  ·rw [if_pos c82] at H
                   have c82b0 : decide (0 ≤ (rd x8_1 (ji79))) = true := decide_eq_true c82
                   clear c82
                   by_cases c83 : (rd x8_1 (ji79)) < (y142.length : Int)
                   ·rw [if_pos c83] at H
                    have c83b0 : decide ((rd x8_1 (ji79)) < (y142.length : Int)) = true := decide_eq_true c83
                    clear c83
                    by_cases c84 : y158.length + ((rd_T33 y142 (rd x8_1 (ji79))).f3).length < 17592186044416
                    ·rw [if_pos c84] at H
                     have LMc84 := Aside0.mk c84
                     clear c84
                     obtain ⟨y162, hy162⟩ : ∃ y_ : List Int, y_ = (y158 ++ ((rd_T33 y142 (rd x8_1 (ji79))).f3)) := ⟨_, rfl⟩
                     replace H : (if y162.length < 17592186044416 then ((some (y142.set ((rd x8_1 (ji79)) : Int).toNat (⟨(rd_T33 y142 (rd x8_1 (ji79))).f0, (rd_T33 y142 (rd x8_1 (ji79))).f1, (rd_T33 y142 (rd x8_1 (ji79))).f2, (y162 ++ [(x6_1.length : Int)]), (rd_T33 y142 (rd x8_1 (ji79))).f4⟩ : S33) : List (S33))).bind fun y168 => (if ((rd_T61 l0 x9_1).f0) = 1 then ((some (([] : List Int) : List Int)).bind fun y169 => (if y169.length + x8_1.length < 17592186044416 then ((some (y169 ++ x8_1 : List Int)).bind fun y172 => (if y172.length < 17592186044416 then (reticuleref07_Parse.l0 kj40 l0 y168 x7_1 (y172 ++ [(x6_1.length : Int)]) (wrap64 (x9_1 + 1))) else (none))) else (none))) else (reticuleref07_Parse.l0 kj40 l0 y168 x7_1 x8_1 (wrap64 (x9_1 + 1))))) else (none)) = some (r1, r2, r3, r4) := by first | (rw [hy162]; with_reducible exact H) | (have H2_ := (Option.bind_some _ _).symm.trans H; rw [hy162]; with_reducible exact H2_) | (have H2_ := (Option.bind_some _ _).symm.trans H; with_reducible exact H2_) | with_reducible exact H | (rw [hy162]; exact H) | exact H
                     have Ny162 := Aside0.mk hy162
                     clear hy162
                     by_cases c85 : y162.length < 17592186044416
                     ·rw [if_pos c85] at H
                      have LMc85 := Aside0.mk c85
                      clear c85
                      obtain ⟨y165, hy165⟩ : ∃ y_ : List Int, y_ = (y162 ++ [(x6_1.length : Int)]) := ⟨_, rfl⟩
                      replace H : ((some (y142.set ((rd x8_1 (ji79)) : Int).toNat (⟨(rd_T33 y142 (rd x8_1 (ji79))).f0, (rd_T33 y142 (rd x8_1 (ji79))).f1, (rd_T33 y142 (rd x8_1 (ji79))).f2, y165, (rd_T33 y142 (rd x8_1 (ji79))).f4⟩ : S33) : List (S33))).bind fun y168 => (if ((rd_T61 l0 x9_1).f0) = 1 then ((some (([] : List Int) : List Int)).bind fun y169 => (if y169.length + x8_1.length < 17592186044416 then ((some (y169 ++ x8_1 : List Int)).bind fun y172 => (if y172.length < 17592186044416 then (reticuleref07_Parse.l0 kj40 l0 y168 x7_1 (y172 ++ [(x6_1.length : Int)]) (wrap64 (x9_1 + 1))) else (none))) else (none))) else (reticuleref07_Parse.l0 kj40 l0 y168 x7_1 x8_1 (wrap64 (x9_1 + 1))))) = some (r1, r2, r3, r4) := by first | (rw [hy165]; with_reducible exact H) | (have H2_ := (Option.bind_some _ _).symm.trans H; rw [hy165]; with_reducible exact H2_) | (have H2_ := (Option.bind_some _ _).symm.trans H; with_reducible exact H2_) | with_reducible exact H | (rw [hy165]; exact H) | exact H
                      have Ny165 := Aside0.mk hy165
                      clear hy165
                      obtain ⟨y168, hy168⟩ : ∃ y_ : List (S33), y_ = (y142.set ((rd x8_1 (ji79)) : Int).toNat (⟨(rd_T33 y142 (rd x8_1 (ji79))).f0, (rd_T33 y142 (rd x8_1 (ji79))).f1, (rd_T33 y142 (rd x8_1 (ji79))).f2, y165, (rd_T33 y142 (rd x8_1 (ji79))).f4⟩ : S33)) := ⟨_, rfl⟩
                      replace H : (if ((rd_T61 l0 x9_1).f0) = 1 then ((some (([] : List Int) : List Int)).bind fun y169 => (if y169.length + x8_1.length < 17592186044416 then ((some (y169 ++ x8_1 : List Int)).bind fun y172 => (if y172.length < 17592186044416 then (reticuleref07_Parse.l0 kj40 l0 y168 x7_1 (y172 ++ [(x6_1.length : Int)]) (wrap64 (x9_1 + 1))) else (none))) else (none))) else (reticuleref07_Parse.l0 kj40 l0 y168 x7_1 x8_1 (wrap64 (x9_1 + 1)))) = some (r1, r2, r3, r4) := by first | (rw [hy168]; with_reducible exact H) | (have H2_ := (Option.bind_some _ _).symm.trans H; rw [hy168]; with_reducible exact H2_) | (have H2_ := (Option.bind_some _ _).symm.trans H; with_reducible exact H2_) | with_reducible exact H | (rw [hy168]; exact H) | exact H
                      have Ny168 := Aside0.mk hy168
                      clear hy168
                      by_cases c87 : ((rd_T61 l0 x9_1).f0) = 1
                      ·rw [if_pos c87] at H
                       have c87b0 : (((rd_T61 l0 x9_1).f0) == 1) = true := beq_iff_eq.mpr c87
                       have c87b1 : (((rd_T61 l0 x9_1).f0) != 1) = false := bne_eq_false_iff_eq.mpr c87
                       clear c87
                       obtain ⟨y169, hy169⟩ : ∃ y_ : List Int, y_ = (([] : List Int)) := ⟨_, rfl⟩
                       replace H : (if y169.length + x8_1.length < 17592186044416 then ((some (y169 ++ x8_1 : List Int)).bind fun y172 => (if y172.length < 17592186044416 then (reticuleref07_Parse.l0 kj40 l0 y168 x7_1 (y172 ++ [(x6_1.length : Int)]) (wrap64 (x9_1 + 1))) else (none))) else (none)) = some (r1, r2, r3, r4) := by first | (rw [hy169]; with_reducible exact H) | (have H2_ := (Option.bind_some _ _).symm.trans H; rw [hy169]; with_reducible exact H2_) | (have H2_ := (Option.bind_some _ _).symm.trans H; with_reducible exact H2_) | with_reducible exact H | (rw [hy169]; exact H) | exact H
                       have Ny169 := Aside0.mk hy169
                       clear hy169
                       by_cases c88 : y169.length + x8_1.length < 17592186044416
                       ·rw [if_pos c88] at H
                        have LMc88 := Aside0.mk c88
                        clear c88
                        obtain ⟨y172, hy172⟩ : ∃ y_ : List Int, y_ = (y169 ++ x8_1) := ⟨_, rfl⟩
                        replace H : (if y172.length < 17592186044416 then (reticuleref07_Parse.l0 kj40 l0 y168 x7_1 (y172 ++ [(x6_1.length : Int)]) (wrap64 (x9_1 + 1))) else (none)) = some (r1, r2, r3, r4) := by first | (rw [hy172]; with_reducible exact H) | (have H2_ := (Option.bind_some _ _).symm.trans H; rw [hy172]; with_reducible exact H2_) | (have H2_ := (Option.bind_some _ _).symm.trans H; with_reducible exact H2_) | with_reducible exact H | (rw [hy172]; exact H) | exact H
                        have Ny172 := Aside0.mk hy172
                        clear hy172
                        by_cases c89 : y172.length < 17592186044416
                        ·rw [if_pos c89] at H
                         have LMc89 := Aside0.mk c89
                         clear c89
                         obtain ⟨y175, hy175⟩ : ∃ y_ : List Int, y_ = (y172 ++ [(x6_1.length : Int)]) := ⟨_, rfl⟩
                         replace H : (reticuleref07_Parse.l0 kj40 l0 y168 x7_1 y175 (wrap64 (x9_1 + 1))) = some (r1, r2, r3, r4) := by first | (rw [hy175]; with_reducible exact H) | (have H2_ := (Option.bind_some _ _).symm.trans H; rw [hy175]; with_reducible exact H2_) | (have H2_ := (Option.bind_some _ _).symm.trans H; with_reducible exact H2_) | with_reducible exact H | (rw [hy175]; exact H) | exact H
                         have Ny175 := Aside0.mk hy175
                         clear hy175
                         have H' := Aside0.mk H
                         clear H
                         obtain ⟨Ao90, co90, eo90⟩ := Kd.S_slice HO_6.out
                         subst eo90
                         have hnb91 := NB141_130.out
                         have hnc91 := NB130_141.out
                         have hcz92_0 : wc.cell? ⟨gb141, 0, none⟩ = some (.int .u8 ((rd_T61 l0 x9_1).f0)) := (blk_cell BK141.out 0).trans rfl
                         have hcz92_1 : wc.cell? ⟨gb141, 1, none⟩ = some (.string x142001_40) := (blk_cell BK141.out 1).trans rfl
                         have hcz92_2 : wc.cell? ⟨gb141, 2, none⟩ = some (.int .i64 x142002_40) := (blk_cell BK141.out 2).trans rfl
                         have hcz92_3 : wc.cell? ⟨gb141, 3, none⟩ = some (.slice none 0 0) := (blk_cell BK141.out 3).trans rfl
                         have hcz92_4 : wc.cell? ⟨gb141, 4, none⟩ = some (.int .i64 ((rd_T61 l0 x9_1).f3)) := (blk_cell BK141.out 4).trans rfl
                         have hfz92_0 := blk_frozen BK141.out 0
                         have hfz92_1 := blk_frozen BK141.out 1
                         have hfz92_2 := blk_frozen BK141.out 2
                         have hfz92_3 := blk_frozen BK141.out 3
                         have hfz92_4 := blk_frozen BK141.out 4
                         go_wp2_with (first | ((with_reducible refine gate_builtin (b := .append) (xs := #[.tmp 86, .tmp 88]) rfl ?_); (try (refine gate_guard (by rfl) ?_; dsimp only)); at_builtin; refine Kd.S_append k33 (w0 := w) w.heap.size rfl (.tmp 86) (.tmp 88) 22 33 (.agg #[(.int .u8 0), (.string ⟨#[]⟩), (.int .i64 0), (.slice none 0 0), (.int .i64 0)]) 64 rfl Try.underlying22 info33 rfl (by decide) (by omega) (.slice Ao90 x6_1.length co90) x6_1 (⟨((rd_T61 l0 x9_1).f0), x142001_40, x142002_40, ([] : List Int), ((rd_T61 l0 x9_1).f3)⟩ : S33) [.int .u8 ((rd_T61 l0 x9_1).f0), .string x142001_40, .int .i64 x142002_40, .slice none 0 0, .int .i64 ((rd_T61 l0 x9_1).f3)] (fun k_ => some k_ ≠ (u7 : Value).ownBlock ∧ some k_ ≠ (u8 : Value).ownBlock ∧ k_ ≠ gb141) (fun _ => False) rfl rfl ?aP (fun k_ hk_ => hk_.elim) ?aF ?aO ?aB ?aS ?aL ?_; (case aP => exact k33_mkM _ _ _ (⟨((rd_T61 l0 x9_1).f0), x142001_40, x142002_40, ([] : List Int), ((rd_T61 l0 x9_1).f3)⟩ : S33) (Kd.R_nil _ _ _ _ _)); (case aB => exact (by repeat (first | (with_reducible first | exact HB.out | apply below_alloc | apply pw_below_drewN | apply below_drew1 | refine below_set ?_ GE130.out | refine below_set ?_ GE141.out) | exact HB.out))); (case aF => exact (fun k_ hk => ⟨Kd.fresh' (Kd.R_lt (by (with_reducible repeat (first | apply Kd.R_alloc | apply Kd.R_drewN | apply Kd.R_drew)); exact HO_7.out)) k_ hk, Kd.fresh' (Kd.R_lt (by (with_reducible repeat (first | apply Kd.R_alloc | apply Kd.R_drewN | apply Kd.R_drew)); exact HO_8.out)) k_ hk, Kd.freshB (g := gb141) (o := .cells #[.int .u8 ((rd_T61 l0 x9_1).f0), .string x142001_40, .int .i64 x142002_40, .slice none 0 0, .int .i64 ((rd_T61 l0 x9_1).f3)] 33 (0, 0)) (by (with_reducible repeat (first | refine blk_drewN ?_ _ | refine blk_drew ?_ | refine blk_alloc ?_ _)); exact BK141.out) k_ hk⟩)); (case aO => exact (by (with_reducible repeat (first | apply Kd.S_alloc | apply Kd.S_drewN | apply Kd.S_drew)); exact Kd.S_mono HO_6.out (fun k_ hk => ⟨⟨hk.1, ⟨hk.2.1, hk.2.2⟩⟩, fun e_ => e_⟩))); (case aS => exact (below_size (by repeat (first | (with_reducible first | exact HB.out | apply below_alloc | apply pw_below_drewN | apply below_drew1 | refine below_set ?_ GE130.out | refine below_set ?_ GE141.out) | exact HB.out)))); (case aL => have := LMc55.out; omega); intro v143 w93 ho hb hg hat; rw [← Ny142.out] at ho; have n0_ := Aside0.mk (Kd.R_over' (by (with_reducible repeat (first | apply Kd.R_alloc | apply Kd.R_drewN | apply Kd.R_drew)); exact HO_7.out) (Kd.S_typed (by (with_reducible repeat (first | apply Kd.S_alloc | apply Kd.S_drewN | apply Kd.S_drew)); exact HO_6.out)) (by decide) hg); have n1_ := Aside0.mk (Kd.R_over' (by (with_reducible repeat (first | apply Kd.R_alloc | apply Kd.R_drewN | apply Kd.R_drew)); exact HO_8.out) (Kd.S_typed (by (with_reducible repeat (first | apply Kd.S_alloc | apply Kd.S_drewN | apply Kd.S_drew)); exact HO_6.out)) (by decide) hg); have n2_ := Aside0.mk (blk_grown (g := gb130) (o := .cells #[.int .u8 ((rd_T61 l0 x9_1).f0), .string ((rd_T61 l0 x9_1).f1), .int .i64 ((rd_T61 l0 x9_1).f2), .int .i64 ((rd_T61 l0 x9_1).f3)] 61 (0, 0)) (by (with_reducible repeat (first | refine blk_drewN ?_ _ | refine blk_drew ?_ | refine blk_alloc ?_ _)); exact BK130.out) hg (Kd.S_ne HO_6.out BK130.out (by decide))); have n3_ := Aside0.mk (blk_grown (g := gb141) (o := .cells #[.int .u8 ((rd_T61 l0 x9_1).f0), .string x142001_40, .int .i64 x142002_40, .slice none 0 0, .int .i64 ((rd_T61 l0 x9_1).f3)] 33 (0, 0)) (by (with_reducible repeat (first | refine blk_drewN ?_ _ | refine blk_drew ?_ | refine blk_alloc ?_ _)); exact BK141.out) hg (Kd.S_away HO_6.out (fun _ hk => hk.2.2))); have n4_ := Aside0.mk (hb); have n5_ := Aside0.mk (ho); clear HO_7; clear HO_8; clear BK130; clear BK141; clear HB; clear HO_6; have HO_7 := n0_; have HO_8 := n1_; have BK130 := n2_; have BK141 := n3_; have HB := n4_; have HO144 := n5_; clear n0_ n1_ n2_ n3_ n4_ n5_; clear ho hb hg hat; obtain ⟨Ao94, co94, eo94⟩ := Kd.R_slice HO_8.out; subst eo94; have p157 : 0 ≤ ((ji79) : Int) := of_decide_eq_true (by first | (with_reducible assumption) | assumption); have q157 : (ji79) < (x8_1.length : Int) := of_decide_eq_true (by first | (with_reducible assumption) | assumption); obtain ⟨ad157, e157, hx157_0⟩ := Kd.at_int (Kd.R_reads' HO_8.out).2.2 (ji79) p157 q157; cases e157; replace p157 := eq_true p157; replace q157 := eq_true q157) | ((with_reducible refine gate_dst (N := 105) rfl ?_); (try (refine gate_guard (by rfl) ?_; dsimp only)); refine Kd.R_lit (Kd.int .i64) _ 3 ?hg (N := 105) ?hd (xs := ([] : List Int)) (inner := []) (ok := fun _ => True) (okp := fun _ => True) ?hr ?hp (fun _ hk => hk) trivial (Below.refl _ _) (Nat.le_refl _) (by simp) ?_; (case hd => rfl); (case hg => rfl); (case hr => first | (go_simp; done) | (go_simp; rfl)); (case hp => exact (Reps.none _ _)); intro v159 w95 ho96 hb hg_ hnew_; clear hg_ hnew_; (first | rw [← Ny158.out] at ho96 | (simp only [Int.reduceToNat] at ho96; rw [← Ny158.out] at ho96)); have n0_ := Aside0.mk (Kd.R_elder' (by (with_reducible repeat (first | apply Kd.R_alloc | apply Kd.R_drewN | apply Kd.R_drew)); exact HO_7.out) (Kd.R_base ho96) hb); have n1_ := Aside0.mk (Kd.R_elder' (by (with_reducible repeat (first | apply Kd.R_alloc | apply Kd.R_drewN | apply Kd.R_drew)); exact HO_8.out) (Kd.R_base ho96) hb); have n2_ := Aside0.mk (Kd.S_elder' (by (with_reducible repeat (first | apply Kd.S_alloc | apply Kd.S_drewN | apply Kd.S_drew)); exact HO144.out) (Kd.R_base ho96) hb); have n3_ := Aside0.mk (Kd.R_lower (Kd.R_new' (Kd.R_new' ho96 (Kd.R_lt (by (with_reducible repeat (first | apply Kd.R_alloc | apply Kd.R_drewN | apply Kd.R_drew)); exact HO_7.out))) (Kd.R_lt (by (with_reducible repeat (first | apply Kd.R_alloc | apply Kd.R_drewN | apply Kd.R_drew)); exact HO_8.out))) (below_size (by repeat (first | (with_reducible first | exact HB.out | apply below_alloc | apply pw_below_drewN | apply below_drew1 | refine below_set ?_ GE130.out | refine below_set ?_ GE141.out) | exact HB.out)))); have n4_ := Aside0.mk (blk_below (g := gb130) (o := .cells #[.int .u8 ((rd_T61 l0 x9_1).f0), .string ((rd_T61 l0 x9_1).f1), .int .i64 ((rd_T61 l0 x9_1).f2), .int .i64 ((rd_T61 l0 x9_1).f3)] 61 (0, 0)) (by (with_reducible repeat (first | refine blk_drewN ?_ _ | refine blk_drew ?_ | refine blk_alloc ?_ _)); exact BK130.out) hb); have n5_ := Aside0.mk (blk_below (g := gb141) (o := .cells #[.int .u8 ((rd_T61 l0 x9_1).f0), .string x142001_40, .int .i64 x142002_40, .slice none 0 0, .int .i64 ((rd_T61 l0 x9_1).f3)] 33 (0, 0)) (by (with_reducible repeat (first | refine blk_drewN ?_ _ | refine blk_drew ?_ | refine blk_alloc ?_ _)); exact BK141.out) hb); have n6_ := Aside0.mk (below_step (by repeat (first | (with_reducible first | exact HB.out | apply below_alloc | apply pw_below_drewN | apply below_drew1 | refine below_set ?_ GE130.out | refine below_set ?_ GE141.out) | exact HB.out)) hb); clear HO_7; clear HO_8; clear HO144; clear BK130; clear BK141; clear HB; have HO_7 := n0_; have HO_8 := n1_; have HO144 := n2_; have HO160 := n3_; have BK130 := n4_; have BK141 := n5_; have HB := n6_; clear n0_ n1_ n2_ n3_ n4_ n5_ n6_; clear hb ho96; obtain ⟨Ao97, co97, eo97⟩ := Kd.S_slice HO144.out; subst eo97; have p161 : 0 ≤ ((rd x8_1 (ji79)) : Int) := of_decide_eq_true (by first | (with_reducible assumption) | assumption); have q161 : (rd x8_1 (ji79)) < (y142.length : Int) := of_decide_eq_true (by first | (with_reducible assumption) | assumption); obtain ⟨ad161, A161_3, c161_3, e161, hx161_0, hx161_1, hx161_2, hx161_3, hx161_4, hl161_3, hi161_3⟩ := at_T33 (Kd.S_reads' HO144.out).2.2 (rd x8_1 (ji79)) p161 q161; cases e161; obtain ⟨ce161, hce161, hMe161, hcc161⟩ := Kd.S_get HO144.out z33 (rd x8_1 (ji79)) p161 (by first | exact q161 | exact of_decide_eq_true (by first | (with_reducible assumption) | assumption) | (have e_ := (Kd.S_reads' HO144.out).1; omega)); obtain ⟨ve161_3, rfl, ge161_3⟩ := k33_openM hMe161; have hv161_3 := hcc161 3 _ rfl; rw [add_field _ _ 3 (by omega)] at hv161_3; replace hv161_3 := Option.some.inj (hv161_3.symm.trans hx161_3); rw [hv161_3] at ge161_3; have HL161_3 := Aside0.mk (show Kd.R (Kd.int .i64) 3 _ _ _ _ ((rd_T33 y142 (rd x8_1 (ji79))).f3) from ge161_3); clear hv161_3 ge161_3; clear hcc161 hce161; have HR161_3 := Aside0.mk hi161_3; have HC161_3 := Aside0.mk hl161_3; clear hi161_3 hl161_3; replace p161 := eq_true p161; replace q161 := eq_true q161) | ((with_reducible refine gate_builtin (b := .append) (xs := #[.tmp 105, .tmp 110]) rfl ?_); (try (refine gate_guard (by rfl) ?_; dsimp only)); at_builtin; refine Kd.R_append_rows (Kd.int .i64) (w0 := w) w.heap.size rfl (.tmp 105) (.tmp 110) 23 3 (.int .i64 0) 8 rfl Try.underlying23 info3 rfl (by decide) (by omega) v159 y158 ((rd_T33 y142 (rd x8_1 (ji79))).f3) _ _ _ (fun k_ => some k_ ≠ (u7 : Value).ownBlock ∧ some k_ ≠ (.slice (some ad157) x8_1.length co94 : Value).ownBlock) (fun _ => False) rfl rfl ?aO ?aR (fun _ _ h => h) (fun _ h => h.elim) ?aF ?aB ?aS ?aL ?_; (case aR => repeat (first | exact (by repeat (first | (with_reducible exact HR161_3.out) | (with_reducible refine Kd.C_alloc ?_ _) | (with_reducible refine Kd.C_drewN ?_ _) | (with_reducible refine Kd.C_drew ?_) | exact HR161_3.out)) | (with_reducible refine Kd.C_alloc ?_ _) | (with_reducible refine Kd.C_drewN ?_ _) | (with_reducible refine Kd.C_drew ?_))); (case aB => exact (by repeat (first | (with_reducible first | exact HB.out | apply below_alloc | apply pw_below_drewN | apply below_drew1 | refine below_set ?_ GE130.out | refine below_set ?_ GE141.out) | exact HB.out))); (case aF => exact (fun k_ hk => ⟨Kd.fresh' (Kd.R_lt (by (with_reducible repeat (first | apply Kd.R_alloc | apply Kd.R_drewN | apply Kd.R_drew)); exact HO_7.out)) k_ hk, Kd.fresh' (Kd.R_lt (by (with_reducible repeat (first | apply Kd.R_alloc | apply Kd.R_drewN | apply Kd.R_drew)); exact HO_8.out)) k_ hk⟩)); (case aO => exact (by (with_reducible repeat (first | apply Kd.R_alloc | apply Kd.R_drewN | apply Kd.R_drew)); exact Kd.R_mono HO160.out (fun _ hk => ⟨hk.1.2, hk.2⟩))); (case aS => exact (below_size (by repeat (first | (with_reducible first | exact HB.out | apply below_alloc | apply pw_below_drewN | apply below_drew1 | refine below_set ?_ GE130.out | refine below_set ?_ GE141.out) | exact HB.out)))); (case aL => have := LMc84.out; omega); intro v163 w98 ho hb hg hat; rw [← Ny162.out] at ho; have n0_ := Aside0.mk (Kd.R_after (ok := (fun k_ => some k_ ≠ (.slice (some ad157) x8_1.length co94 : Value).ownBlock)) (by (with_reducible repeat (first | apply Kd.R_alloc | apply Kd.R_drewN | apply Kd.R_drew)); exact HO_7.out) hg hat); have n1_ := Aside0.mk (Kd.R_after (ok := (fun k_ => some k_ ≠ (u7 : Value).ownBlock)) (by (with_reducible repeat (first | apply Kd.R_alloc | apply Kd.R_drewN | apply Kd.R_drew)); exact HO_8.out) hg hat); have n2_ := Aside0.mk (blk_grown (g := gb130) (o := .cells #[.int .u8 ((rd_T61 l0 x9_1).f0), .string ((rd_T61 l0 x9_1).f1), .int .i64 ((rd_T61 l0 x9_1).f2), .int .i64 ((rd_T61 l0 x9_1).f3)] 61 (0, 0)) (by (with_reducible repeat (first | refine blk_drewN ?_ _ | refine blk_drew ?_ | refine blk_alloc ?_ _)); exact BK130.out) hg (Kd.R_ne HO160.out BK130.out (by decide))); have n3_ := Aside0.mk (blk_grown (g := gb141) (o := .cells #[.int .u8 ((rd_T61 l0 x9_1).f0), .string x142001_40, .int .i64 x142002_40, .slice none 0 0, .int .i64 ((rd_T61 l0 x9_1).f3)] 33 (0, 0)) (by (with_reducible repeat (first | refine blk_drewN ?_ _ | refine blk_drew ?_ | refine blk_alloc ?_ _)); exact BK141.out) hg (Kd.R_ne HO160.out BK141.out (by decide))); have n4_ := Aside0.mk (Kd.S_after (ok := (fun k_ => some k_ ≠ (u7 : Value).ownBlock ∧ some k_ ≠ (.slice (some ad157) x8_1.length co94 : Value).ownBlock ∧ k_ ≠ gb141)) (by (with_reducible repeat (first | apply Kd.S_alloc | apply Kd.S_drewN | apply Kd.S_drew)); exact HO144.out) hg hat); have n5_ := Aside0.mk (Kd.R_after (ok := (fun k_ => some k_ ≠ (u7 : Value).ownBlock ∧ some k_ ≠ (.slice (some ad157) x8_1.length co94 : Value).ownBlock ∧ some k_ ≠ (.slice (some ad161) y142.length co97 : Value).ownBlock ∧ k_ ≠ gb141)) (by (with_reducible repeat (first | apply Kd.R_alloc | apply Kd.R_drewN | apply Kd.R_drew)); exact Kd.R_mono HL161_3.out (fun _ hk => ⟨⟨hk.1.1.1, ⟨hk.1.1.2.1, ⟨hk.2, hk.1.1.2.2⟩⟩⟩, hk.1.2⟩)) hg hat); have n6_ := Aside0.mk (hb); have n7_ := Aside0.mk (ho); clear HO_7; clear HO_8; clear BK130; clear BK141; clear HO144; clear HL161_3; clear HB; clear HO160; have HO_7 := n0_; have HO_8 := n1_; have BK130 := n2_; have BK141 := n3_; have HO144 := n4_; have HL161_3 := n5_; have HB := n6_; have HO164 := n7_; clear n0_ n1_ n2_ n3_ n4_ n5_ n6_ n7_; clear ho hb hg hat) | ((with_reducible refine gate_builtin (b := .append) (xs := #[.tmp 111, .tmp 113]) rfl ?_); (try (refine gate_guard (by rfl) ?_; dsimp only)); at_builtin; refine Kd.R_append (Kd.int .i64) (w0 := w) w.heap.size rfl (.tmp 111) (.tmp 113) 23 3 (.int .i64 0) 8 rfl Try.underlying23 info3 rfl (by decide) (by omega) v163 y162 (x6_1.length : Int) [.int .i64 (x6_1.length : Int)] (fun k_ => some k_ ≠ (u7 : Value).ownBlock ∧ some k_ ≠ (.slice (some ad157) x8_1.length co94 : Value).ownBlock) (fun _ => False) rfl rfl ?aP (fun _ hk => hk.elim) ?aF ?aO ?aB ?aS ?aL ?_; (case aP => exact rfl); (case aB => exact (by repeat (first | (with_reducible first | exact HB.out | apply below_alloc | apply pw_below_drewN | apply below_drew1 | refine below_set ?_ GE130.out | refine below_set ?_ GE141.out) | exact HB.out))); (case aF => exact (fun k_ hk => ⟨Kd.fresh' (Kd.R_lt (by (with_reducible repeat (first | apply Kd.R_alloc | apply Kd.R_drewN | apply Kd.R_drew)); exact HO_7.out)) k_ hk, Kd.fresh' (Kd.R_lt (by (with_reducible repeat (first | apply Kd.R_alloc | apply Kd.R_drewN | apply Kd.R_drew)); exact HO_8.out)) k_ hk⟩)); (case aO => exact (by (with_reducible repeat (first | apply Kd.R_alloc | apply Kd.R_drewN | apply Kd.R_drew)); exact HO164.out)); (case aS => exact (below_size (by repeat (first | (with_reducible first | exact HB.out | apply below_alloc | apply pw_below_drewN | apply below_drew1 | refine below_set ?_ GE130.out | refine below_set ?_ GE141.out) | exact HB.out)))); (case aL => have := LMc85.out; omega); intro v166 w99 ho hb hg hat; rw [← Ny165.out] at ho; have n0_ := Aside0.mk (Kd.R_after (ok := (fun k_ => some k_ ≠ (.slice (some ad157) x8_1.length co94 : Value).ownBlock)) (by (with_reducible repeat (first | apply Kd.R_alloc | apply Kd.R_drewN | apply Kd.R_drew)); exact HO_7.out) hg hat); have n1_ := Aside0.mk (Kd.R_after (ok := (fun k_ => some k_ ≠ (u7 : Value).ownBlock)) (by (with_reducible repeat (first | apply Kd.R_alloc | apply Kd.R_drewN | apply Kd.R_drew)); exact HO_8.out) hg hat); have n2_ := Aside0.mk (blk_grown (g := gb130) (o := .cells #[.int .u8 ((rd_T61 l0 x9_1).f0), .string ((rd_T61 l0 x9_1).f1), .int .i64 ((rd_T61 l0 x9_1).f2), .int .i64 ((rd_T61 l0 x9_1).f3)] 61 (0, 0)) (by (with_reducible repeat (first | refine blk_drewN ?_ _ | refine blk_drew ?_ | refine blk_alloc ?_ _)); exact BK130.out) hg (Kd.R_ne HO164.out BK130.out (by decide))); have n3_ := Aside0.mk (blk_grown (g := gb141) (o := .cells #[.int .u8 ((rd_T61 l0 x9_1).f0), .string x142001_40, .int .i64 x142002_40, .slice none 0 0, .int .i64 ((rd_T61 l0 x9_1).f3)] 33 (0, 0)) (by (with_reducible repeat (first | refine blk_drewN ?_ _ | refine blk_drew ?_ | refine blk_alloc ?_ _)); exact BK141.out) hg (Kd.R_ne HO164.out BK141.out (by decide))); have n4_ := Aside0.mk (Kd.S_after (ok := (fun k_ => some k_ ≠ (u7 : Value).ownBlock ∧ some k_ ≠ (.slice (some ad157) x8_1.length co94 : Value).ownBlock ∧ k_ ≠ gb141)) (by (with_reducible repeat (first | apply Kd.S_alloc | apply Kd.S_drewN | apply Kd.S_drew)); exact HO144.out) hg hat); have n5_ := Aside0.mk (Kd.R_after (ok := (fun k_ => some k_ ≠ (u7 : Value).ownBlock ∧ some k_ ≠ (.slice (some ad157) x8_1.length co94 : Value).ownBlock ∧ some k_ ≠ (.slice (some ad161) y142.length co97 : Value).ownBlock ∧ k_ ≠ gb141)) (by (with_reducible repeat (first | apply Kd.R_alloc | apply Kd.R_drewN | apply Kd.R_drew)); exact HL161_3.out) hg hat); have n6_ := Aside0.mk (hb); have n7_ := Aside0.mk (ho); clear HO_7; clear HO_8; clear BK130; clear BK141; clear HO144; clear HL161_3; clear HB; clear HO164; have HO_7 := n0_; have HO_8 := n1_; have BK130 := n2_; have BK141 := n3_; have HO144 := n4_; have HL161_3 := n5_; have HB := n6_; have HO167 := n7_; clear n0_ n1_ n2_ n3_ n4_ n5_ n6_ n7_; clear ho hb hg hat; have p86 : 0 ≤ ((rd x8_1 (ji79)) : Int) := of_decide_eq_true (by first | (with_reducible assumption) | assumption); have q86 : ((rd x8_1 (ji79)) : Int) < ((y142.length : Int) : Int) := of_decide_eq_true (by first | (with_reducible assumption) | assumption); obtain ⟨go86, co86, eo86, gb86, gl86, cl86, HG86⟩ := Kd.S_form HO144.out (by omega); (first | cases eo86 | (injection eo86 with ea_ en_ ec_; (first | subst ea_ | (injection ea_ with ea_; subst ea_)); subst ec_; clear en_)); have GB86 := Aside0.mk gb86; have GG86 := Aside0.mk HG86; clear gb86 gl86 HG86; (first | simp only [add_plain] at hx161_0 | skip); (first | simp only [add_plain] at hx161_1 | skip); (first | simp only [add_plain] at hx161_2 | skip); (first | simp only [add_plain] at hx161_3 | skip); (first | simp only [add_plain] at hx161_4 | skip); obtain ⟨_, ce86, hcl86, hM86, hcc86, hfr86, _, _⟩ := Kd.S_elem HO144.out z33 ((rd x8_1 (ji79)) : Int) p86 q86; obtain ⟨ve86_3, rfl, ge86_3⟩ := k33_openM hM86; have hx86_0 : w99.cell? ⟨go86, ((rd x8_1 (ji79)) : Int).toNat * 5, none⟩ = some (.int .u8 ((rd_T33 y142 (rd x8_1 (ji79))).f0)) := hcc86 0 _ rfl; have hx86_1 : w99.cell? ⟨go86, ((rd x8_1 (ji79)) : Int).toNat * 5 + 1, none⟩ = some (.string ((rd_T33 y142 (rd x8_1 (ji79))).f1)) := hcc86 1 _ rfl; have hx86_2 : w99.cell? ⟨go86, ((rd x8_1 (ji79)) : Int).toNat * 5 + 2, none⟩ = some (.int .i64 ((rd_T33 y142 (rd x8_1 (ji79))).f2)) := hcc86 2 _ rfl; have hx86_3 : w99.cell? ⟨go86, ((rd x8_1 (ji79)) : Int).toNat * 5 + 3, none⟩ = some (ve86_3) := hcc86 3 _ rfl; have hx86_4 : w99.cell? ⟨go86, ((rd x8_1 (ji79)) : Int).toNat * 5 + 4, none⟩ = some (.int .i64 ((rd_T33 y142 (rd x8_1 (ji79))).f4)) := hcc86 4 _ rfl; have hf86_0 : w99.frozen? ⟨go86, ((rd x8_1 (ji79)) : Int).toNat * 5, none⟩ = false := hfr86 0; have hf86_1 : w99.frozen? ⟨go86, ((rd x8_1 (ji79)) : Int).toNat * 5 + 1, none⟩ = false := hfr86 1; have hf86_2 : w99.frozen? ⟨go86, ((rd x8_1 (ji79)) : Int).toNat * 5 + 2, none⟩ = false := hfr86 2; have hf86_3 : w99.frozen? ⟨go86, ((rd x8_1 (ji79)) : Int).toNat * 5 + 3, none⟩ = false := hfr86 3; have hf86_4 : w99.frozen? ⟨go86, ((rd x8_1 (ji79)) : Int).toNat * 5 + 4, none⟩ = false := hfr86 4; clear hcl86 hcc86 hfr86 hM86; replace p86 := eq_true p86; replace q86 := eq_true q86; have n_ := Aside0.mk (Kd.S_mono (ok' := (fun k_ => some k_ ≠ (u7 : Value).ownBlock ∧ some k_ ≠ (.slice (some ad157) x8_1.length co94 : Value).ownBlock ∧ some k_ ≠ (v166 : Value).ownBlock ∧ k_ ≠ gb141)) HO144.out (fun k_ hk => ⟨hk.1.1, ⟨hk.1.2.1, ⟨hk.2, hk.1.2.2⟩⟩⟩)); clear HO144; have HO144 := n_; clear n_; have HX100 := Aside0.mk (show Kd.S k33 33 w99 w.heap.size (fun k_ => ((fun k_ => some k_ ≠ (u7 : Value).ownBlock ∧ some k_ ≠ (.slice (some ad157) x8_1.length co94 : Value).ownBlock ∧ k_ ≠ gb141)) k_ ∧ ¬ ((fun k_ => some k_ = (v166 : Value).ownBlock)) k_) (.slice (some ⟨go86, 0, none⟩) y142.length co97) y142 from (by (with_reducible repeat (first | apply Kd.S_alloc | apply Kd.S_drewN | apply Kd.S_drew)); exact Kd.S_mono HO144.out (fun k_ hk => ⟨⟨hk.1, ⟨hk.2.1, hk.2.2.2⟩⟩, fun e_ => hk.2.2.1 e_⟩))); obtain ⟨oki100, ce100, hcl100, hM100, hcc100, hfr100, hoki100, hH100⟩ := Kd.S_elem HX100.out z33 ((rd x8_1 (ji79)) : Int) (of_decide_eq_true (by first | (with_reducible assumption) | assumption)) (by have h_ : ((rd x8_1 (ji79)) : Int) < ((y142.length : Int) : Int) := of_decide_eq_true (by first | (with_reducible assumption) | assumption); first | exact h_ | (have e_ := (Kd.S_reads' HO144.out).1; omega) | simpa using h_); obtain ⟨ve100_3, rfl, ge100_3⟩ := k33_openM hM100; have HP100 := Kd.S_seg hH100 (of_decide_eq_true (by first | (with_reducible assumption) | assumption)) (by have h_ : ((rd x8_1 (ji79)) : Int) < ((y142.length : Int) : Int) := of_decide_eq_true (by first | (with_reducible assumption) | assumption); first | exact h_ | (have e_ := (Kd.S_reads' HO144.out).1; omega) | simpa using h_) (seg := [v166]) (j := 3) (show 4 ≤ 5 from by decide) (x' := (⟨(rd_T33 y142 (rd x8_1 (ji79))).f0, (rd_T33 y142 (rd x8_1 (ji79))).f1, (rd_T33 y142 (rd x8_1 (ji79))).f2, y165, (rd_T33 y142 (rd x8_1 (ji79))).f4⟩ : S33)) (k33_mkM _ _ _ (⟨(rd_T33 y142 (rd x8_1 (ji79))).f0, (rd_T33 y142 (rd x8_1 (ji79))).f1, (rd_T33 y142 (rd x8_1 (ji79))).f2, y165, (rd_T33 y142 (rd x8_1 (ji79))).f4⟩ : S33) (Kd.R_mono (Kd.R_tight rfl (Kd.R_mono (ok' := fun k_ => ((fun k_ => some k_ ≠ (u7 : Value).ownBlock ∧ some k_ ≠ (.slice (some ad157) x8_1.length co94 : Value).ownBlock ∧ k_ ≠ gb141)) k_ ∧ k_ ≠ go86) (Kd.R_types (Kd.R_apart' (HO167.out) (Kd.S_typed HO144.out) (by decide)) BK141.out (by decide)) (fun k_ hk => ⟨⟨hk.1.1.1, ⟨hk.1.1.2, hk.2⟩⟩, fun e_ => (hk.1.2) (by rw [e_]; rfl)⟩))) (fun _ h_ => Or.inr (h_)))) (fun _ hk => hk) (fun k_ hk_ => ((Kd.R_mono (ok' := fun k_ => ((fun k_ => some k_ ≠ (u7 : Value).ownBlock ∧ some k_ ≠ (.slice (some ad157) x8_1.length co94 : Value).ownBlock ∧ k_ ≠ gb141)) k_ ∧ k_ ≠ go86) (Kd.R_types (Kd.R_apart' (HO167.out) (Kd.S_typed HO144.out) (by decide)) BK141.out (by decide)) (fun k_ hk => ⟨⟨hk.1.1.1, ⟨hk.1.1.2, hk.2⟩⟩, fun e_ => (hk.1.2) (by rw [e_]; rfl)⟩))).1 k_ hk_.symm); have hx100_3 := hcc100 3 _ rfl; (try simp only [show (k33).sz = 5 from rfl, Nat.mul_one, Nat.add_zero] at hx100_3); have hf100_3 := hfr100 3; (try simp only [show (k33).sz = 5 from rfl, Nat.mul_one, Nat.add_zero] at hf100_3); clear hcl100 hcc100 hfr100 hM100 hoki100 hH100) | ((with_reducible refine gate_store (t := 23) (p := 116) rfl ?_); (try (rw [drewN_self w99]; generalize hq_ : World.drewN w99 _ = w99; have n0_ := Aside0.mk (Kd.R_at hq_ HO_7.out); have n1_ := Aside0.mk (Kd.R_at hq_ HO_8.out); have n2_ := Aside0.mk (Kd.S_at hq_ HO144.out); have n3_ := Aside0.mk (Kd.R_at hq_ HL161_3.out); have n4_ := Aside0.mk (blk_at hq_ BK130.out); have n5_ := Aside0.mk (blk_at hq_ BK141.out); have n6_ := Aside0.mk (below_at hq_ HB.out); clear hq_ HO_7 HO_8 HO144 HL161_3 BK130 BK141 HB; have HO_7 := n0_; have HO_8 := n1_; have HO144 := n2_; have HL161_3 := n3_; have BK130 := n4_; have BK141 := n5_; have HB := n6_; clear n0_ n1_ n2_ n3_ n4_ n5_ n6_; (try (have n_ := Aside0.mk (Kd.S_mono (ok' := (fun k_ => some k_ ≠ (u7 : Value).ownBlock ∧ some k_ ≠ (.slice (some ad157) x8_1.length co94 : Value).ownBlock ∧ some k_ ≠ (v166 : Value).ownBlock ∧ k_ ≠ gb141)) HO144.out (fun k_ hk => ⟨hk.1.1, ⟨hk.1.2.1, ⟨hk.2, hk.1.2.2⟩⟩⟩)); clear HO144; have HO144 := n_; clear n_)); (try (have HX100 := Aside0.mk (show Kd.S k33 33 w99 w.heap.size (fun k_ => ((fun k_ => some k_ ≠ (u7 : Value).ownBlock ∧ some k_ ≠ (.slice (some ad157) x8_1.length co94 : Value).ownBlock ∧ k_ ≠ gb141)) k_ ∧ ¬ ((fun k_ => some k_ = (v166 : Value).ownBlock)) k_) (.slice (some ⟨go86, 0, none⟩) y142.length co97) y142 from (by (with_reducible repeat (first | apply Kd.S_alloc | apply Kd.S_drewN | apply Kd.S_drew)); exact Kd.S_mono HO144.out (fun k_ hk => ⟨⟨hk.1, ⟨hk.2.1, hk.2.2.2⟩⟩, fun e_ => hk.2.2.1 e_⟩))))); (try (obtain ⟨oki100, ce100, hcl100, hM100, hcc100, hfr100, hoki100, hH100⟩ := Kd.S_elem HX100.out z33 ((rd x8_1 (ji79)) : Int) (of_decide_eq_true (by first | (with_reducible assumption) | assumption)) (by have h_ : ((rd x8_1 (ji79)) : Int) < ((y142.length : Int) : Int) := of_decide_eq_true (by first | (with_reducible assumption) | assumption); first | exact h_ | (have e_ := (Kd.S_reads' HO144.out).1; omega) | simpa using h_))); (try (obtain ⟨ve100_3, rfl, ge100_3⟩ := k33_openM hM100)); (try (have HP100 := Kd.S_seg hH100 (of_decide_eq_true (by first | (with_reducible assumption) | assumption)) (by have h_ : ((rd x8_1 (ji79)) : Int) < ((y142.length : Int) : Int) := of_decide_eq_true (by first | (with_reducible assumption) | assumption); first | exact h_ | (have e_ := (Kd.S_reads' HO144.out).1; omega) | simpa using h_) (seg := [v166]) (j := 3) (show 4 ≤ 5 from by decide) (x' := (⟨(rd_T33 y142 (rd x8_1 (ji79))).f0, (rd_T33 y142 (rd x8_1 (ji79))).f1, (rd_T33 y142 (rd x8_1 (ji79))).f2, y165, (rd_T33 y142 (rd x8_1 (ji79))).f4⟩ : S33)) (k33_mkM _ _ _ (⟨(rd_T33 y142 (rd x8_1 (ji79))).f0, (rd_T33 y142 (rd x8_1 (ji79))).f1, (rd_T33 y142 (rd x8_1 (ji79))).f2, y165, (rd_T33 y142 (rd x8_1 (ji79))).f4⟩ : S33) (Kd.R_mono (Kd.R_tight rfl (Kd.R_mono (ok' := fun k_ => ((fun k_ => some k_ ≠ (u7 : Value).ownBlock ∧ some k_ ≠ (.slice (some ad157) x8_1.length co94 : Value).ownBlock ∧ k_ ≠ gb141)) k_ ∧ k_ ≠ go86) (Kd.R_types (Kd.R_apart' (HO167.out) (Kd.S_typed HO144.out) (by decide)) BK141.out (by decide)) (fun k_ hk => ⟨⟨hk.1.1.1, ⟨hk.1.1.2, hk.2⟩⟩, fun e_ => (hk.1.2) (by rw [e_]; rfl)⟩))) (fun _ h_ => Or.inr (h_)))) (fun _ hk => hk) (fun k_ hk_ => ((Kd.R_mono (ok' := fun k_ => ((fun k_ => some k_ ≠ (u7 : Value).ownBlock ∧ some k_ ≠ (.slice (some ad157) x8_1.length co94 : Value).ownBlock ∧ k_ ≠ gb141)) k_ ∧ k_ ≠ go86) (Kd.R_types (Kd.R_apart' (HO167.out) (Kd.S_typed HO144.out) (by decide)) BK141.out (by decide)) (fun k_ hk => ⟨⟨hk.1.1.1, ⟨hk.1.1.2, hk.2⟩⟩, fun e_ => (hk.1.2) (by rw [e_]; rfl)⟩))).1 k_ hk_.symm))); (try (have hx100_3 := hcc100 3 _ rfl)); (try (try simp only [show (k33).sz = 5 from rfl, Nat.mul_one, Nat.add_zero] at hx100_3)); (try (have hf100_3 := hfr100 3)); (try (try simp only [show (k33).sz = 5 from rfl, Nat.mul_one, Nat.add_zero] at hf100_3)); (try (clear hcl100 hcc100 hfr100 hM100 hoki100 hH100)))); refine store_event (t := 23) (p := 116) (v := ?vo_w101) (w1 := (w99.setCell ⟨go86, ((rd x8_1 (ji79)) : Int).toNat * 5 + 3, none⟩ (v166))) ?hg ?ho ?hn ?hr ?_; (case ho => rfl); (case hg => rfl); (case hn => rfl); (case hr => first | (go_simp; done) | (go_simp; rfl) | (obtain ⟨A_, c_, hA_⟩ := Kd.R_slice HO167.out; subst hA_; first | (go_simp; done) | (go_simp; rfl))); intro w101 hw; have hg : w99.grownBy w101 (some go86) := (by rw [hw]; exact HP100.2); have hp_ : Kd.S k33 33 w101 w.heap.size (fun k_ => some k_ ≠ (u7 : Value).ownBlock ∧ some k_ ≠ (.slice (some ad157) x8_1.length co94 : Value).ownBlock ∧ k_ ≠ gb141) (.slice (some ⟨go86, 0, none⟩) y142.length co97) y168 := (by rw [hw, Ny168.out]; exact HP100.1); clear HP100; have n0_ := Aside0.mk (Kd.R_over' (v := (.slice (some ⟨go86, 0, none⟩) y142.length co97)) (by (with_reducible repeat (first | apply Kd.R_alloc | apply Kd.R_drewN | apply Kd.R_drew)); exact HO_7.out) (Kd.S_typed HO144.out) (by decide) hg); have n1_ := Aside0.mk (Kd.R_over' (v := (.slice (some ⟨go86, 0, none⟩) y142.length co97)) (by (with_reducible repeat (first | apply Kd.R_alloc | apply Kd.R_drewN | apply Kd.R_drew)); exact HO_8.out) (Kd.S_typed HO144.out) (by decide) hg); have n2_ := Aside0.mk (blk_grown (g := gb130) (o := .cells #[.int .u8 ((rd_T61 l0 x9_1).f0), .string ((rd_T61 l0 x9_1).f1), .int .i64 ((rd_T61 l0 x9_1).f2), .int .i64 ((rd_T61 l0 x9_1).f3)] 61 (0, 0)) (by (with_reducible repeat (first | refine blk_drewN ?_ _ | refine blk_drew ?_ | refine blk_alloc ?_ _)); exact BK130.out) hg (Kd.S_ne HO144.out BK130.out (by decide))); have n3_ := Aside0.mk (blk_grown (g := gb141) (o := .cells #[.int .u8 ((rd_T61 l0 x9_1).f0), .string x142001_40, .int .i64 x142002_40, .slice none 0 0, .int .i64 ((rd_T61 l0 x9_1).f3)] 33 (0, 0)) (by (with_reducible repeat (first | refine blk_drewN ?_ _ | refine blk_drew ?_ | refine blk_alloc ?_ _)); exact BK141.out) hg (Kd.S_away HO144.out (fun _ hk => hk.2.2.2))); have n4_ := Aside0.mk (hp_); have n5_ := Aside0.mk (Kd.R_after (v := (.slice (some ⟨go86, 0, none⟩) y142.length co97)) (v1 := (.slice (some ⟨go86, 0, none⟩) y142.length co97)) (ok := (fun k_ => some k_ ≠ (u7 : Value).ownBlock ∧ some k_ ≠ (.slice (some ad157) x8_1.length co94 : Value).ownBlock ∧ some k_ ≠ (v166 : Value).ownBlock ∧ k_ ≠ gb141)) (by (with_reducible repeat (first | apply Kd.R_alloc | apply Kd.R_drewN | apply Kd.R_drew)); exact Kd.R_mono HL161_3.out (fun _ hk => ⟨⟨hk.1.1, ⟨hk.1.2.1, ⟨hk.2, hk.1.2.2.2⟩⟩⟩, hk.1.2.2.1⟩)) hg (.inl rfl)); have n6_ := Aside0.mk ((by rw [hw]; exact below_set (HB.out) GB86.out : Below w.heap.size w w101)); clear HO_7; clear HO_8; clear BK130; clear BK141; clear HO144; clear HL161_3; clear HB; clear HO167; have HO_7 := n0_; have HO_8 := n1_; have BK130 := n2_; have BK141 := n3_; have HO144 := n4_; have HL161_3 := n5_; have HB := n6_; clear n0_ n1_ n2_ n3_ n4_ n5_ n6_; clear hg hw hp_; have hcz102_0 : w101.cell? ⟨gb130, 0, none⟩ = some (.int .u8 ((rd_T61 l0 x9_1).f0)) := (blk_cell BK130.out 0).trans rfl; have hcz102_1 : w101.cell? ⟨gb130, 1, none⟩ = some (.string ((rd_T61 l0 x9_1).f1)) := (blk_cell BK130.out 1).trans rfl; have hcz102_2 : w101.cell? ⟨gb130, 2, none⟩ = some (.int .i64 ((rd_T61 l0 x9_1).f2)) := (blk_cell BK130.out 2).trans rfl; have hcz102_3 : w101.cell? ⟨gb130, 3, none⟩ = some (.int .i64 ((rd_T61 l0 x9_1).f3)) := (blk_cell BK130.out 3).trans rfl; have hfz102_0 := blk_frozen BK130.out 0; have hfz102_1 := blk_frozen BK130.out 1; have hfz102_2 := blk_frozen BK130.out 2; have hfz102_3 := blk_frozen BK130.out 3) | ((with_reducible refine gate_dst (N := 120) rfl ?_); (try (refine gate_guard (by rfl) ?_; dsimp only)); refine Kd.R_lit (Kd.int .i64) _ 3 ?hg (N := 120) ?hd (xs := ([] : List Int)) (inner := []) (ok := fun _ => True) (okp := fun _ => True) ?hr ?hp (fun _ hk => hk) trivial (Below.refl _ _) (Nat.le_refl _) (by simp) ?_; (case hd => rfl); (case hg => rfl); (case hr => first | (go_simp; done) | (go_simp; rfl)); (case hp => exact (Reps.none _ _)); intro v170 w103 ho104 hb hg_ hnew_; clear hg_ hnew_; (first | rw [← Ny169.out] at ho104 | (simp only [Int.reduceToNat] at ho104; rw [← Ny169.out] at ho104)); have n0_ := Aside0.mk (Kd.R_elder' (by (with_reducible repeat (first | apply Kd.R_alloc | apply Kd.R_drewN | apply Kd.R_drew)); exact HO_7.out) (Kd.R_base ho104) hb); have n1_ := Aside0.mk (Kd.R_elder' (by (with_reducible repeat (first | apply Kd.R_alloc | apply Kd.R_drewN | apply Kd.R_drew)); exact HO_8.out) (Kd.R_base ho104) hb); have n2_ := Aside0.mk (Kd.S_elder' (by (with_reducible repeat (first | apply Kd.S_alloc | apply Kd.S_drewN | apply Kd.S_drew)); exact HO144.out) (Kd.R_base ho104) hb); have n3_ := Aside0.mk (Kd.R_elder' (by (with_reducible repeat (first | apply Kd.R_alloc | apply Kd.R_drewN | apply Kd.R_drew)); exact HL161_3.out) (Kd.R_base ho104) hb); have n4_ := Aside0.mk (Kd.R_lower (Kd.R_new' (Kd.R_new' (Kd.R_new' ho104 (Kd.R_lt (by (with_reducible repeat (first | apply Kd.R_alloc | apply Kd.R_drewN | apply Kd.R_drew)); exact HO_7.out))) (Kd.R_lt (by (with_reducible repeat (first | apply Kd.R_alloc | apply Kd.R_drewN | apply Kd.R_drew)); exact HO_8.out))) (Kd.R_lt (by (with_reducible repeat (first | apply Kd.R_alloc | apply Kd.R_drewN | apply Kd.R_drew)); exact HL161_3.out))) (below_size (by repeat (first | (with_reducible first | exact HB.out | apply below_alloc | apply pw_below_drewN | apply below_drew1 | refine below_set ?_ GE130.out | refine below_set ?_ GE141.out) | exact HB.out)))); have n5_ := Aside0.mk (blk_below (g := gb130) (o := .cells #[.int .u8 ((rd_T61 l0 x9_1).f0), .string ((rd_T61 l0 x9_1).f1), .int .i64 ((rd_T61 l0 x9_1).f2), .int .i64 ((rd_T61 l0 x9_1).f3)] 61 (0, 0)) (by (with_reducible repeat (first | refine blk_drewN ?_ _ | refine blk_drew ?_ | refine blk_alloc ?_ _)); exact BK130.out) hb); have n6_ := Aside0.mk (blk_below (g := gb141) (o := .cells #[.int .u8 ((rd_T61 l0 x9_1).f0), .string x142001_40, .int .i64 x142002_40, .slice none 0 0, .int .i64 ((rd_T61 l0 x9_1).f3)] 33 (0, 0)) (by (with_reducible repeat (first | refine blk_drewN ?_ _ | refine blk_drew ?_ | refine blk_alloc ?_ _)); exact BK141.out) hb); have n7_ := Aside0.mk (below_step (by repeat (first | (with_reducible first | exact HB.out | apply below_alloc | apply pw_below_drewN | apply below_drew1 | refine below_set ?_ GE130.out | refine below_set ?_ GE141.out) | exact HB.out)) hb); clear HO_7; clear HO_8; clear HO144; clear HL161_3; clear BK130; clear BK141; clear HB; have HO_7 := n0_; have HO_8 := n1_; have HO144 := n2_; have HL161_3 := n3_; have HO171 := n4_; have BK130 := n5_; have BK141 := n6_; have HB := n7_; clear n0_ n1_ n2_ n3_ n4_ n5_ n6_ n7_; clear hb ho104) | ((with_reducible refine gate_builtin (b := .append) (xs := #[.tmp 120, .tmp 121]) rfl ?_); (try (refine gate_guard (by rfl) ?_; dsimp only)); at_builtin; refine Kd.R_append_rows (Kd.int .i64) (w0 := w) w.heap.size rfl (.tmp 120) (.tmp 121) 23 3 (.int .i64 0) 8 rfl Try.underlying23 info3 rfl (by decide) (by omega) v170 y169 x8_1 _ _ _ (fun k_ => some k_ ≠ (u7 : Value).ownBlock ∧ some k_ ≠ (.slice (some ad157) x8_1.length co94 : Value).ownBlock ∧ some k_ ≠ (.slice A161_3 ((rd_T33 y142 (rd x8_1 (ji79))).f3).length c161_3 : Value).ownBlock) (fun _ => False) rfl rfl ?aO ?aR (fun _ _ h => h) (fun _ h => h.elim) ?aF ?aB ?aS ?aL ?_; (case aR => repeat (first | exact (Kd.R_reads' HO_8.out).2.2 | (with_reducible refine Kd.C_alloc ?_ _) | (with_reducible refine Kd.C_drewN ?_ _) | (with_reducible refine Kd.C_drew ?_))); (case aB => exact (by repeat (first | (with_reducible first | exact HB.out | apply below_alloc | apply pw_below_drewN | apply below_drew1 | refine below_set ?_ GE130.out | refine below_set ?_ GE141.out) | exact HB.out))); (case aF => exact (fun k_ hk => ⟨Kd.fresh' (Kd.R_lt (by (with_reducible repeat (first | apply Kd.R_alloc | apply Kd.R_drewN | apply Kd.R_drew)); exact HO_7.out)) k_ hk, Kd.fresh' (Kd.R_lt (by (with_reducible repeat (first | apply Kd.R_alloc | apply Kd.R_drewN | apply Kd.R_drew)); exact HO_8.out)) k_ hk, Kd.fresh' (Kd.R_lt (by (with_reducible repeat (first | apply Kd.R_alloc | apply Kd.R_drewN | apply Kd.R_drew)); exact HL161_3.out)) k_ hk⟩)); (case aO => exact (by (with_reducible repeat (first | apply Kd.R_alloc | apply Kd.R_drewN | apply Kd.R_drew)); exact Kd.R_mono HO171.out (fun _ hk => ⟨hk.1.1.2, ⟨hk.1.2, hk.2⟩⟩))); (case aS => exact (below_size (by repeat (first | (with_reducible first | exact HB.out | apply below_alloc | apply pw_below_drewN | apply below_drew1 | refine below_set ?_ GE130.out | refine below_set ?_ GE141.out) | exact HB.out)))); (case aL => have := LMc88.out; omega); intro v173 w105 ho hb hg hat; rw [← Ny172.out] at ho; have n0_ := Aside0.mk (Kd.R_after (ok := (fun k_ => some k_ ≠ (.slice (some ad157) x8_1.length co94 : Value).ownBlock)) (by (with_reducible repeat (first | apply Kd.R_alloc | apply Kd.R_drewN | apply Kd.R_drew)); exact Kd.R_mono HO_7.out (fun _ hk => ⟨hk.1.1, hk.2⟩)) hg hat); have n1_ := Aside0.mk (Kd.R_after (ok := (fun k_ => some k_ ≠ (u7 : Value).ownBlock)) (by (with_reducible repeat (first | apply Kd.R_alloc | apply Kd.R_drewN | apply Kd.R_drew)); exact Kd.R_mono HO_8.out (fun _ hk => ⟨hk.1.1, hk.2⟩)) hg hat); have n2_ := Aside0.mk (blk_grown (g := gb130) (o := .cells #[.int .u8 ((rd_T61 l0 x9_1).f0), .string ((rd_T61 l0 x9_1).f1), .int .i64 ((rd_T61 l0 x9_1).f2), .int .i64 ((rd_T61 l0 x9_1).f3)] 61 (0, 0)) (by (with_reducible repeat (first | refine blk_drewN ?_ _ | refine blk_drew ?_ | refine blk_alloc ?_ _)); exact BK130.out) hg (Kd.R_ne HO171.out BK130.out (by decide))); have n3_ := Aside0.mk (blk_grown (g := gb141) (o := .cells #[.int .u8 ((rd_T61 l0 x9_1).f0), .string x142001_40, .int .i64 x142002_40, .slice none 0 0, .int .i64 ((rd_T61 l0 x9_1).f3)] 33 (0, 0)) (by (with_reducible repeat (first | refine blk_drewN ?_ _ | refine blk_drew ?_ | refine blk_alloc ?_ _)); exact BK141.out) hg (Kd.R_ne HO171.out BK141.out (by decide))); have n4_ := Aside0.mk (Kd.S_after (ok := (fun k_ => some k_ ≠ (u7 : Value).ownBlock ∧ some k_ ≠ (.slice (some ad157) x8_1.length co94 : Value).ownBlock ∧ k_ ≠ gb141)) (by (with_reducible repeat (first | apply Kd.S_alloc | apply Kd.S_drewN | apply Kd.S_drew)); exact HO144.out) hg hat); have n5_ := Aside0.mk (Kd.R_after (ok := (fun k_ => some k_ ≠ (u7 : Value).ownBlock ∧ some k_ ≠ (.slice (some ad157) x8_1.length co94 : Value).ownBlock ∧ some k_ ≠ (.slice (some ⟨go86, 0, none⟩) y142.length co97 : Value).ownBlock ∧ k_ ≠ gb141)) (by (with_reducible repeat (first | apply Kd.R_alloc | apply Kd.R_drewN | apply Kd.R_drew)); exact Kd.R_mono HL161_3.out (fun _ hk => ⟨⟨hk.1.1.1, ⟨hk.1.1.2.1, ⟨hk.1.2, hk.1.1.2.2.2⟩⟩⟩, hk.2⟩)) hg hat); have n6_ := Aside0.mk (hb); have n7_ := Aside0.mk (ho); clear HO_7; clear HO_8; clear BK130; clear BK141; clear HO144; clear HL161_3; clear HB; clear HO171; have HO_7 := n0_; have HO_8 := n1_; have BK130 := n2_; have BK141 := n3_; have HO144 := n4_; have HL161_3 := n5_; have HB := n6_; have HO174 := n7_; clear n0_ n1_ n2_ n3_ n4_ n5_ n6_ n7_; clear ho hb hg hat) | ((with_reducible refine gate_builtin (b := .append) (xs := #[.tmp 122, .tmp 124]) rfl ?_); (try (refine gate_guard (by rfl) ?_; dsimp only)); at_builtin; refine Kd.R_append (Kd.int .i64) (w0 := w) w.heap.size rfl (.tmp 122) (.tmp 124) 23 3 (.int .i64 0) 8 rfl Try.underlying23 info3 rfl (by decide) (by omega) v173 y172 (x6_1.length : Int) [.int .i64 (x6_1.length : Int)] (fun k_ => some k_ ≠ (u7 : Value).ownBlock ∧ some k_ ≠ (.slice (some ad157) x8_1.length co94 : Value).ownBlock ∧ some k_ ≠ (.slice A161_3 ((rd_T33 y142 (rd x8_1 (ji79))).f3).length c161_3 : Value).ownBlock) (fun _ => False) rfl rfl ?aP (fun _ hk => hk.elim) ?aF ?aO ?aB ?aS ?aL ?_; (case aP => exact rfl); (case aB => exact (by repeat (first | (with_reducible first | exact HB.out | apply below_alloc | apply pw_below_drewN | apply below_drew1 | refine below_set ?_ GE130.out | refine below_set ?_ GE141.out) | exact HB.out))); (case aF => exact (fun k_ hk => ⟨Kd.fresh' (Kd.R_lt (by (with_reducible repeat (first | apply Kd.R_alloc | apply Kd.R_drewN | apply Kd.R_drew)); exact HO_7.out)) k_ hk, Kd.fresh' (Kd.R_lt (by (with_reducible repeat (first | apply Kd.R_alloc | apply Kd.R_drewN | apply Kd.R_drew)); exact HO_8.out)) k_ hk, Kd.fresh' (Kd.R_lt (by (with_reducible repeat (first | apply Kd.R_alloc | apply Kd.R_drewN | apply Kd.R_drew)); exact HL161_3.out)) k_ hk⟩)); (case aO => exact (by (with_reducible repeat (first | apply Kd.R_alloc | apply Kd.R_drewN | apply Kd.R_drew)); exact HO174.out)); (case aS => exact (below_size (by repeat (first | (with_reducible first | exact HB.out | apply below_alloc | apply pw_below_drewN | apply below_drew1 | refine below_set ?_ GE130.out | refine below_set ?_ GE141.out) | exact HB.out)))); (case aL => have := LMc89.out; omega); intro v176 w106 ho hb hg hat; rw [← Ny175.out] at ho; have n0_ := Aside0.mk (Kd.R_after (ok := (fun k_ => some k_ ≠ (.slice (some ad157) x8_1.length co94 : Value).ownBlock)) (by (with_reducible repeat (first | apply Kd.R_alloc | apply Kd.R_drewN | apply Kd.R_drew)); exact HO_7.out) hg hat); have n1_ := Aside0.mk (Kd.R_after (ok := (fun k_ => some k_ ≠ (u7 : Value).ownBlock)) (by (with_reducible repeat (first | apply Kd.R_alloc | apply Kd.R_drewN | apply Kd.R_drew)); exact HO_8.out) hg hat); have n2_ := Aside0.mk (blk_grown (g := gb130) (o := .cells #[.int .u8 ((rd_T61 l0 x9_1).f0), .string ((rd_T61 l0 x9_1).f1), .int .i64 ((rd_T61 l0 x9_1).f2), .int .i64 ((rd_T61 l0 x9_1).f3)] 61 (0, 0)) (by (with_reducible repeat (first | refine blk_drewN ?_ _ | refine blk_drew ?_ | refine blk_alloc ?_ _)); exact BK130.out) hg (Kd.R_ne HO174.out BK130.out (by decide))); have n3_ := Aside0.mk (blk_grown (g := gb141) (o := .cells #[.int .u8 ((rd_T61 l0 x9_1).f0), .string x142001_40, .int .i64 x142002_40, .slice none 0 0, .int .i64 ((rd_T61 l0 x9_1).f3)] 33 (0, 0)) (by (with_reducible repeat (first | refine blk_drewN ?_ _ | refine blk_drew ?_ | refine blk_alloc ?_ _)); exact BK141.out) hg (Kd.R_ne HO174.out BK141.out (by decide))); have n4_ := Aside0.mk (Kd.S_after (ok := (fun k_ => some k_ ≠ (u7 : Value).ownBlock ∧ some k_ ≠ (.slice (some ad157) x8_1.length co94 : Value).ownBlock ∧ k_ ≠ gb141)) (by (with_reducible repeat (first | apply Kd.S_alloc | apply Kd.S_drewN | apply Kd.S_drew)); exact HO144.out) hg hat); have n5_ := Aside0.mk (Kd.R_after (ok := (fun k_ => some k_ ≠ (u7 : Value).ownBlock ∧ some k_ ≠ (.slice (some ad157) x8_1.length co94 : Value).ownBlock ∧ some k_ ≠ (.slice (some ⟨go86, 0, none⟩) y142.length co97 : Value).ownBlock ∧ k_ ≠ gb141)) (by (with_reducible repeat (first | apply Kd.R_alloc | apply Kd.R_drewN | apply Kd.R_drew)); exact HL161_3.out) hg hat); have n6_ := Aside0.mk (hb); have n7_ := Aside0.mk (ho); clear HO_7; clear HO_8; clear BK130; clear BK141; clear HO144; clear HL161_3; clear HB; clear HO174; have HO_7 := n0_; have HO_8 := n1_; have BK130 := n2_; have BK141 := n3_; have HO144 := n4_; have HL161_3 := n5_; have HB := n6_; have HO177 := n7_; clear n0_ n1_ n2_ n3_ n4_ n5_ n6_ n7_; clear ho hb hg hat))
                         repeat (go_quiet (fail); try go_wp2_with (first | ((with_reducible refine gate_store (t := 23) (p := 116) rfl ?_); (try (rw [drewN_self w99]; generalize hq_ : World.drewN w99 _ = w99; have n0_ := Aside0.mk (Kd.R_at hq_ HO_7.out); have n1_ := Aside0.mk (Kd.R_at hq_ HO_8.out); have n2_ := Aside0.mk (Kd.S_at hq_ HO144.out); have n3_ := Aside0.mk (Kd.R_at hq_ HL161_3.out); have n4_ := Aside0.mk (blk_at hq_ BK130.out); have n5_ := Aside0.mk (blk_at hq_ BK141.out); have n6_ := Aside0.mk (below_at hq_ HB.out); clear hq_ HO_7 HO_8 HO144 HL161_3 BK130 BK141 HB; have HO_7 := n0_; have HO_8 := n1_; have HO144 := n2_; have HL161_3 := n3_; have BK130 := n4_; have BK141 := n5_; have HB := n6_; clear n0_ n1_ n2_ n3_ n4_ n5_ n6_; (try (have n_ := Aside0.mk (Kd.S_mono (ok' := (fun k_ => some k_ ≠ (u7 : Value).ownBlock ∧ some k_ ≠ (.slice (some ad157) x8_1.length co94 : Value).ownBlock ∧ some k_ ≠ (v166 : Value).ownBlock ∧ k_ ≠ gb141)) HO144.out (fun k_ hk => ⟨hk.1.1, ⟨hk.1.2.1, ⟨hk.2, hk.1.2.2⟩⟩⟩)); clear HO144; have HO144 := n_; clear n_)); (try (have HX100 := Aside0.mk (show Kd.S k33 33 w99 w.heap.size (fun k_ => ((fun k_ => some k_ ≠ (u7 : Value).ownBlock ∧ some k_ ≠ (.slice (some ad157) x8_1.length co94 : Value).ownBlock ∧ k_ ≠ gb141)) k_ ∧ ¬ ((fun k_ => some k_ = (v166 : Value).ownBlock)) k_) (.slice (some ⟨go86, 0, none⟩) y142.length co97) y142 from (by (with_reducible repeat (first | apply Kd.S_alloc | apply Kd.S_drewN | apply Kd.S_drew)); exact Kd.S_mono HO144.out (fun k_ hk => ⟨⟨hk.1, ⟨hk.2.1, hk.2.2.2⟩⟩, fun e_ => hk.2.2.1 e_⟩))))); (try (obtain ⟨oki100, ce100, hcl100, hM100, hcc100, hfr100, hoki100, hH100⟩ := Kd.S_elem HX100.out z33 ((rd x8_1 (ji79)) : Int) (of_decide_eq_true (by first | (with_reducible assumption) | assumption)) (by have h_ : ((rd x8_1 (ji79)) : Int) < ((y142.length : Int) : Int) := of_decide_eq_true (by first | (with_reducible assumption) | assumption); first | exact h_ | (have e_ := (Kd.S_reads' HO144.out).1; omega) | simpa using h_))); (try (obtain ⟨ve100_3, rfl, ge100_3⟩ := k33_openM hM100)); (try (have HP100 := Kd.S_seg hH100 (of_decide_eq_true (by first | (with_reducible assumption) | assumption)) (by have h_ : ((rd x8_1 (ji79)) : Int) < ((y142.length : Int) : Int) := of_decide_eq_true (by first | (with_reducible assumption) | assumption); first | exact h_ | (have e_ := (Kd.S_reads' HO144.out).1; omega) | simpa using h_) (seg := [v166]) (j := 3) (show 4 ≤ 5 from by decide) (x' := (⟨(rd_T33 y142 (rd x8_1 (ji79))).f0, (rd_T33 y142 (rd x8_1 (ji79))).f1, (rd_T33 y142 (rd x8_1 (ji79))).f2, y165, (rd_T33 y142 (rd x8_1 (ji79))).f4⟩ : S33)) (k33_mkM _ _ _ (⟨(rd_T33 y142 (rd x8_1 (ji79))).f0, (rd_T33 y142 (rd x8_1 (ji79))).f1, (rd_T33 y142 (rd x8_1 (ji79))).f2, y165, (rd_T33 y142 (rd x8_1 (ji79))).f4⟩ : S33) (Kd.R_mono (Kd.R_tight rfl (Kd.R_mono (ok' := fun k_ => ((fun k_ => some k_ ≠ (u7 : Value).ownBlock ∧ some k_ ≠ (.slice (some ad157) x8_1.length co94 : Value).ownBlock ∧ k_ ≠ gb141)) k_ ∧ k_ ≠ go86) (Kd.R_types (Kd.R_apart' (HO167.out) (Kd.S_typed HO144.out) (by decide)) BK141.out (by decide)) (fun k_ hk => ⟨⟨hk.1.1.1, ⟨hk.1.1.2, hk.2⟩⟩, fun e_ => (hk.1.2) (by rw [e_]; rfl)⟩))) (fun _ h_ => Or.inr (h_)))) (fun _ hk => hk) (fun k_ hk_ => ((Kd.R_mono (ok' := fun k_ => ((fun k_ => some k_ ≠ (u7 : Value).ownBlock ∧ some k_ ≠ (.slice (some ad157) x8_1.length co94 : Value).ownBlock ∧ k_ ≠ gb141)) k_ ∧ k_ ≠ go86) (Kd.R_types (Kd.R_apart' (HO167.out) (Kd.S_typed HO144.out) (by decide)) BK141.out (by decide)) (fun k_ hk => ⟨⟨hk.1.1.1, ⟨hk.1.1.2, hk.2⟩⟩, fun e_ => (hk.1.2) (by rw [e_]; rfl)⟩))).1 k_ hk_.symm))); (try (have hx100_3 := hcc100 3 _ rfl)); (try (try simp only [show (k33).sz = 5 from rfl, Nat.mul_one, Nat.add_zero] at hx100_3)); (try (have hf100_3 := hfr100 3)); (try (try simp only [show (k33).sz = 5 from rfl, Nat.mul_one, Nat.add_zero] at hf100_3)); (try (clear hcl100 hcc100 hfr100 hM100 hoki100 hH100)))); refine store_event (t := 23) (p := 116) (v := ?vo_w101) (w1 := (w99.setCell ⟨go86, ((rd x8_1 (ji79)) : Int).toNat * 5 + 3, none⟩ (v166))) ?hg ?ho ?hn ?hr ?_; (case ho => rfl); (case hg => rfl); (case hn => rfl); (case hr => first | (go_simp; done) | (go_simp; rfl) | (obtain ⟨A_, c_, hA_⟩ := Kd.R_slice HO167.out; subst hA_; first | (go_simp; done) | (go_simp; rfl))); intro w101 hw; have hg : w99.grownBy w101 (some go86) := (by rw [hw]; exact HP100.2); have hp_ : Kd.S k33 33 w101 w.heap.size (fun k_ => some k_ ≠ (u7 : Value).ownBlock ∧ some k_ ≠ (.slice (some ad157) x8_1.length co94 : Value).ownBlock ∧ k_ ≠ gb141) (.slice (some ⟨go86, 0, none⟩) y142.length co97) y168 := (by rw [hw, Ny168.out]; exact HP100.1); clear HP100; have n0_ := Aside0.mk (Kd.R_over' (v := (.slice (some ⟨go86, 0, none⟩) y142.length co97)) (by (with_reducible repeat (first | apply Kd.R_alloc | apply Kd.R_drewN | apply Kd.R_drew)); exact HO_7.out) (Kd.S_typed HO144.out) (by decide) hg); have n1_ := Aside0.mk (Kd.R_over' (v := (.slice (some ⟨go86, 0, none⟩) y142.length co97)) (by (with_reducible repeat (first | apply Kd.R_alloc | apply Kd.R_drewN | apply Kd.R_drew)); exact HO_8.out) (Kd.S_typed HO144.out) (by decide) hg); have n2_ := Aside0.mk (blk_grown (g := gb130) (o := .cells #[.int .u8 ((rd_T61 l0 x9_1).f0), .string ((rd_T61 l0 x9_1).f1), .int .i64 ((rd_T61 l0 x9_1).f2), .int .i64 ((rd_T61 l0 x9_1).f3)] 61 (0, 0)) (by (with_reducible repeat (first | refine blk_drewN ?_ _ | refine blk_drew ?_ | refine blk_alloc ?_ _)); exact BK130.out) hg (Kd.S_ne HO144.out BK130.out (by decide))); have n3_ := Aside0.mk (blk_grown (g := gb141) (o := .cells #[.int .u8 ((rd_T61 l0 x9_1).f0), .string x142001_40, .int .i64 x142002_40, .slice none 0 0, .int .i64 ((rd_T61 l0 x9_1).f3)] 33 (0, 0)) (by (with_reducible repeat (first | refine blk_drewN ?_ _ | refine blk_drew ?_ | refine blk_alloc ?_ _)); exact BK141.out) hg (Kd.S_away HO144.out (fun _ hk => hk.2.2.2))); have n4_ := Aside0.mk (hp_); have n5_ := Aside0.mk (Kd.R_after (v := (.slice (some ⟨go86, 0, none⟩) y142.length co97)) (v1 := (.slice (some ⟨go86, 0, none⟩) y142.length co97)) (ok := (fun k_ => some k_ ≠ (u7 : Value).ownBlock ∧ some k_ ≠ (.slice (some ad157) x8_1.length co94 : Value).ownBlock ∧ some k_ ≠ (v166 : Value).ownBlock ∧ k_ ≠ gb141)) (by (with_reducible repeat (first | apply Kd.R_alloc | apply Kd.R_drewN | apply Kd.R_drew)); exact Kd.R_mono HL161_3.out (fun _ hk => ⟨⟨hk.1.1, ⟨hk.1.2.1, ⟨hk.2, hk.1.2.2.2⟩⟩⟩, hk.1.2.2.1⟩)) hg (.inl rfl)); have n6_ := Aside0.mk ((by rw [hw]; exact below_set (HB.out) GB86.out : Below w.heap.size w w101)); clear HO_7; clear HO_8; clear BK130; clear BK141; clear HO144; clear HL161_3; clear HB; clear HO167; have HO_7 := n0_; have HO_8 := n1_; have BK130 := n2_; have BK141 := n3_; have HO144 := n4_; have HL161_3 := n5_; have HB := n6_; clear n0_ n1_ n2_ n3_ n4_ n5_ n6_; clear hg hw hp_; have hcz102_0 : w101.cell? ⟨gb130, 0, none⟩ = some (.int .u8 ((rd_T61 l0 x9_1).f0)) := (blk_cell BK130.out 0).trans rfl; have hcz102_1 : w101.cell? ⟨gb130, 1, none⟩ = some (.string ((rd_T61 l0 x9_1).f1)) := (blk_cell BK130.out 1).trans rfl; have hcz102_2 : w101.cell? ⟨gb130, 2, none⟩ = some (.int .i64 ((rd_T61 l0 x9_1).f2)) := (blk_cell BK130.out 2).trans rfl; have hcz102_3 : w101.cell? ⟨gb130, 3, none⟩ = some (.int .i64 ((rd_T61 l0 x9_1).f3)) := (blk_cell BK130.out 3).trans rfl; have hfz102_0 := blk_frozen BK130.out 0; have hfz102_1 := blk_frozen BK130.out 1; have hfz102_2 := blk_frozen BK130.out 2; have hfz102_3 := blk_frozen BK130.out 3) | ((with_reducible refine gate_dst (N := 120) rfl ?_); (try (refine gate_guard (by rfl) ?_; dsimp only)); refine Kd.R_lit (Kd.int .i64) _ 3 ?hg (N := 120) ?hd (xs := ([] : List Int)) (inner := []) (ok := fun _ => True) (okp := fun _ => True) ?hr ?hp (fun _ hk => hk) trivial (Below.refl _ _) (Nat.le_refl _) (by simp) ?_; (case hd => rfl); (case hg => rfl); (case hr => first | (go_simp; done) | (go_simp; rfl)); (case hp => exact (Reps.none _ _)); intro v170 w103 ho104 hb hg_ hnew_; clear hg_ hnew_; (first | rw [← Ny169.out] at ho104 | (simp only [Int.reduceToNat] at ho104; rw [← Ny169.out] at ho104)); have n0_ := Aside0.mk (Kd.R_elder' (by (with_reducible repeat (first | apply Kd.R_alloc | apply Kd.R_drewN | apply Kd.R_drew)); exact HO_7.out) (Kd.R_base ho104) hb); have n1_ := Aside0.mk (Kd.R_elder' (by (with_reducible repeat (first | apply Kd.R_alloc | apply Kd.R_drewN | apply Kd.R_drew)); exact HO_8.out) (Kd.R_base ho104) hb); have n2_ := Aside0.mk (Kd.S_elder' (by (with_reducible repeat (first | apply Kd.S_alloc | apply Kd.S_drewN | apply Kd.S_drew)); exact HO144.out) (Kd.R_base ho104) hb); have n3_ := Aside0.mk (Kd.R_elder' (by (with_reducible repeat (first | apply Kd.R_alloc | apply Kd.R_drewN | apply Kd.R_drew)); exact HL161_3.out) (Kd.R_base ho104) hb); have n4_ := Aside0.mk (Kd.R_lower (Kd.R_new' (Kd.R_new' (Kd.R_new' ho104 (Kd.R_lt (by (with_reducible repeat (first | apply Kd.R_alloc | apply Kd.R_drewN | apply Kd.R_drew)); exact HO_7.out))) (Kd.R_lt (by (with_reducible repeat (first | apply Kd.R_alloc | apply Kd.R_drewN | apply Kd.R_drew)); exact HO_8.out))) (Kd.R_lt (by (with_reducible repeat (first | apply Kd.R_alloc | apply Kd.R_drewN | apply Kd.R_drew)); exact HL161_3.out))) (below_size (by repeat (first | (with_reducible first | exact HB.out | apply below_alloc | apply pw_below_drewN | apply below_drew1 | refine below_set ?_ GE130.out | refine below_set ?_ GE141.out) | exact HB.out)))); have n5_ := Aside0.mk (blk_below (g := gb130) (o := .cells #[.int .u8 ((rd_T61 l0 x9_1).f0), .string ((rd_T61 l0 x9_1).f1), .int .i64 ((rd_T61 l0 x9_1).f2), .int .i64 ((rd_T61 l0 x9_1).f3)] 61 (0, 0)) (by (with_reducible repeat (first | refine blk_drewN ?_ _ | refine blk_drew ?_ | refine blk_alloc ?_ _)); exact BK130.out) hb); have n6_ := Aside0.mk (blk_below (g := gb141) (o := .cells #[.int .u8 ((rd_T61 l0 x9_1).f0), .string x142001_40, .int .i64 x142002_40, .slice none 0 0, .int .i64 ((rd_T61 l0 x9_1).f3)] 33 (0, 0)) (by (with_reducible repeat (first | refine blk_drewN ?_ _ | refine blk_drew ?_ | refine blk_alloc ?_ _)); exact BK141.out) hb); have n7_ := Aside0.mk (below_step (by repeat (first | (with_reducible first | exact HB.out | apply below_alloc | apply pw_below_drewN | apply below_drew1 | refine below_set ?_ GE130.out | refine below_set ?_ GE141.out) | exact HB.out)) hb); clear HO_7; clear HO_8; clear HO144; clear HL161_3; clear BK130; clear BK141; clear HB; have HO_7 := n0_; have HO_8 := n1_; have HO144 := n2_; have HL161_3 := n3_; have HO171 := n4_; have BK130 := n5_; have BK141 := n6_; have HB := n7_; clear n0_ n1_ n2_ n3_ n4_ n5_ n6_ n7_; clear hb ho104) | ((with_reducible refine gate_builtin (b := .append) (xs := #[.tmp 120, .tmp 121]) rfl ?_); (try (refine gate_guard (by rfl) ?_; dsimp only)); at_builtin; refine Kd.R_append_rows (Kd.int .i64) (w0 := w) w.heap.size rfl (.tmp 120) (.tmp 121) 23 3 (.int .i64 0) 8 rfl Try.underlying23 info3 rfl (by decide) (by omega) v170 y169 x8_1 _ _ _ (fun k_ => some k_ ≠ (u7 : Value).ownBlock ∧ some k_ ≠ (.slice (some ad157) x8_1.length co94 : Value).ownBlock ∧ some k_ ≠ (.slice A161_3 ((rd_T33 y142 (rd x8_1 (ji79))).f3).length c161_3 : Value).ownBlock) (fun _ => False) rfl rfl ?aO ?aR (fun _ _ h => h) (fun _ h => h.elim) ?aF ?aB ?aS ?aL ?_; (case aR => repeat (first | exact (Kd.R_reads' HO_8.out).2.2 | (with_reducible refine Kd.C_alloc ?_ _) | (with_reducible refine Kd.C_drewN ?_ _) | (with_reducible refine Kd.C_drew ?_))); (case aB => exact (by repeat (first | (with_reducible first | exact HB.out | apply below_alloc | apply pw_below_drewN | apply below_drew1 | refine below_set ?_ GE130.out | refine below_set ?_ GE141.out) | exact HB.out))); (case aF => exact (fun k_ hk => ⟨Kd.fresh' (Kd.R_lt (by (with_reducible repeat (first | apply Kd.R_alloc | apply Kd.R_drewN | apply Kd.R_drew)); exact HO_7.out)) k_ hk, Kd.fresh' (Kd.R_lt (by (with_reducible repeat (first | apply Kd.R_alloc | apply Kd.R_drewN | apply Kd.R_drew)); exact HO_8.out)) k_ hk, Kd.fresh' (Kd.R_lt (by (with_reducible repeat (first | apply Kd.R_alloc | apply Kd.R_drewN | apply Kd.R_drew)); exact HL161_3.out)) k_ hk⟩)); (case aO => exact (by (with_reducible repeat (first | apply Kd.R_alloc | apply Kd.R_drewN | apply Kd.R_drew)); exact Kd.R_mono HO171.out (fun _ hk => ⟨hk.1.1.2, ⟨hk.1.2, hk.2⟩⟩))); (case aS => exact (below_size (by repeat (first | (with_reducible first | exact HB.out | apply below_alloc | apply pw_below_drewN | apply below_drew1 | refine below_set ?_ GE130.out | refine below_set ?_ GE141.out) | exact HB.out)))); (case aL => have := LMc88.out; omega); intro v173 w105 ho hb hg hat; rw [← Ny172.out] at ho; have n0_ := Aside0.mk (Kd.R_after (ok := (fun k_ => some k_ ≠ (.slice (some ad157) x8_1.length co94 : Value).ownBlock)) (by (with_reducible repeat (first | apply Kd.R_alloc | apply Kd.R_drewN | apply Kd.R_drew)); exact Kd.R_mono HO_7.out (fun _ hk => ⟨hk.1.1, hk.2⟩)) hg hat); have n1_ := Aside0.mk (Kd.R_after (ok := (fun k_ => some k_ ≠ (u7 : Value).ownBlock)) (by (with_reducible repeat (first | apply Kd.R_alloc | apply Kd.R_drewN | apply Kd.R_drew)); exact Kd.R_mono HO_8.out (fun _ hk => ⟨hk.1.1, hk.2⟩)) hg hat); have n2_ := Aside0.mk (blk_grown (g := gb130) (o := .cells #[.int .u8 ((rd_T61 l0 x9_1).f0), .string ((rd_T61 l0 x9_1).f1), .int .i64 ((rd_T61 l0 x9_1).f2), .int .i64 ((rd_T61 l0 x9_1).f3)] 61 (0, 0)) (by (with_reducible repeat (first | refine blk_drewN ?_ _ | refine blk_drew ?_ | refine blk_alloc ?_ _)); exact BK130.out) hg (Kd.R_ne HO171.out BK130.out (by decide))); have n3_ := Aside0.mk (blk_grown (g := gb141) (o := .cells #[.int .u8 ((rd_T61 l0 x9_1).f0), .string x142001_40, .int .i64 x142002_40, .slice none 0 0, .int .i64 ((rd_T61 l0 x9_1).f3)] 33 (0, 0)) (by (with_reducible repeat (first | refine blk_drewN ?_ _ | refine blk_drew ?_ | refine blk_alloc ?_ _)); exact BK141.out) hg (Kd.R_ne HO171.out BK141.out (by decide))); have n4_ := Aside0.mk (Kd.S_after (ok := (fun k_ => some k_ ≠ (u7 : Value).ownBlock ∧ some k_ ≠ (.slice (some ad157) x8_1.length co94 : Value).ownBlock ∧ k_ ≠ gb141)) (by (with_reducible repeat (first | apply Kd.S_alloc | apply Kd.S_drewN | apply Kd.S_drew)); exact HO144.out) hg hat); have n5_ := Aside0.mk (Kd.R_after (ok := (fun k_ => some k_ ≠ (u7 : Value).ownBlock ∧ some k_ ≠ (.slice (some ad157) x8_1.length co94 : Value).ownBlock ∧ some k_ ≠ (.slice (some ⟨go86, 0, none⟩) y142.length co97 : Value).ownBlock ∧ k_ ≠ gb141)) (by (with_reducible repeat (first | apply Kd.R_alloc | apply Kd.R_drewN | apply Kd.R_drew)); exact Kd.R_mono HL161_3.out (fun _ hk => ⟨⟨hk.1.1.1, ⟨hk.1.1.2.1, ⟨hk.1.2, hk.1.1.2.2.2⟩⟩⟩, hk.2⟩)) hg hat); have n6_ := Aside0.mk (hb); have n7_ := Aside0.mk (ho); clear HO_7; clear HO_8; clear BK130; clear BK141; clear HO144; clear HL161_3; clear HB; clear HO171; have HO_7 := n0_; have HO_8 := n1_; have BK130 := n2_; have BK141 := n3_; have HO144 := n4_; have HL161_3 := n5_; have HB := n6_; have HO174 := n7_; clear n0_ n1_ n2_ n3_ n4_ n5_ n6_ n7_; clear ho hb hg hat) | ((with_reducible refine gate_builtin (b := .append) (xs := #[.tmp 122, .tmp 124]) rfl ?_); (try (refine gate_guard (by rfl) ?_; dsimp only)); at_builtin; refine Kd.R_append (Kd.int .i64) (w0 := w) w.heap.size rfl (.tmp 122) (.tmp 124) 23 3 (.int .i64 0) 8 rfl Try.underlying23 info3 rfl (by decide) (by omega) v173 y172 (x6_1.length : Int) [.int .i64 (x6_1.length : Int)] (fun k_ => some k_ ≠ (u7 : Value).ownBlock ∧ some k_ ≠ (.slice (some ad157) x8_1.length co94 : Value).ownBlock ∧ some k_ ≠ (.slice A161_3 ((rd_T33 y142 (rd x8_1 (ji79))).f3).length c161_3 : Value).ownBlock) (fun _ => False) rfl rfl ?aP (fun _ hk => hk.elim) ?aF ?aO ?aB ?aS ?aL ?_; (case aP => exact rfl); (case aB => exact (by repeat (first | (with_reducible first | exact HB.out | apply below_alloc | apply pw_below_drewN | apply below_drew1 | refine below_set ?_ GE130.out | refine below_set ?_ GE141.out) | exact HB.out))); (case aF => exact (fun k_ hk => ⟨Kd.fresh' (Kd.R_lt (by (with_reducible repeat (first | apply Kd.R_alloc | apply Kd.R_drewN | apply Kd.R_drew)); exact HO_7.out)) k_ hk, Kd.fresh' (Kd.R_lt (by (with_reducible repeat (first | apply Kd.R_alloc | apply Kd.R_drewN | apply Kd.R_drew)); exact HO_8.out)) k_ hk, Kd.fresh' (Kd.R_lt (by (with_reducible repeat (first | apply Kd.R_alloc | apply Kd.R_drewN | apply Kd.R_drew)); exact HL161_3.out)) k_ hk⟩)); (case aO => exact (by (with_reducible repeat (first | apply Kd.R_alloc | apply Kd.R_drewN | apply Kd.R_drew)); exact HO174.out)); (case aS => exact (below_size (by repeat (first | (with_reducible first | exact HB.out | apply below_alloc | apply pw_below_drewN | apply below_drew1 | refine below_set ?_ GE130.out | refine below_set ?_ GE141.out) | exact HB.out)))); (case aL => have := LMc89.out; omega); intro v176 w106 ho hb hg hat; rw [← Ny175.out] at ho; have n0_ := Aside0.mk (Kd.R_after (ok := (fun k_ => some k_ ≠ (.slice (some ad157) x8_1.length co94 : Value).ownBlock)) (by (with_reducible repeat (first | apply Kd.R_alloc | apply Kd.R_drewN | apply Kd.R_drew)); exact HO_7.out) hg hat); have n1_ := Aside0.mk (Kd.R_after (ok := (fun k_ => some k_ ≠ (u7 : Value).ownBlock)) (by (with_reducible repeat (first | apply Kd.R_alloc | apply Kd.R_drewN | apply Kd.R_drew)); exact HO_8.out) hg hat); have n2_ := Aside0.mk (blk_grown (g := gb130) (o := .cells #[.int .u8 ((rd_T61 l0 x9_1).f0), .string ((rd_T61 l0 x9_1).f1), .int .i64 ((rd_T61 l0 x9_1).f2), .int .i64 ((rd_T61 l0 x9_1).f3)] 61 (0, 0)) (by (with_reducible repeat (first | refine blk_drewN ?_ _ | refine blk_drew ?_ | refine blk_alloc ?_ _)); exact BK130.out) hg (Kd.R_ne HO174.out BK130.out (by decide))); have n3_ := Aside0.mk (blk_grown (g := gb141) (o := .cells #[.int .u8 ((rd_T61 l0 x9_1).f0), .string x142001_40, .int .i64 x142002_40, .slice none 0 0, .int .i64 ((rd_T61 l0 x9_1).f3)] 33 (0, 0)) (by (with_reducible repeat (first | refine blk_drewN ?_ _ | refine blk_drew ?_ | refine blk_alloc ?_ _)); exact BK141.out) hg (Kd.R_ne HO174.out BK141.out (by decide))); have n4_ := Aside0.mk (Kd.S_after (ok := (fun k_ => some k_ ≠ (u7 : Value).ownBlock ∧ some k_ ≠ (.slice (some ad157) x8_1.length co94 : Value).ownBlock ∧ k_ ≠ gb141)) (by (with_reducible repeat (first | apply Kd.S_alloc | apply Kd.S_drewN | apply Kd.S_drew)); exact HO144.out) hg hat); have n5_ := Aside0.mk (Kd.R_after (ok := (fun k_ => some k_ ≠ (u7 : Value).ownBlock ∧ some k_ ≠ (.slice (some ad157) x8_1.length co94 : Value).ownBlock ∧ some k_ ≠ (.slice (some ⟨go86, 0, none⟩) y142.length co97 : Value).ownBlock ∧ k_ ≠ gb141)) (by (with_reducible repeat (first | apply Kd.R_alloc | apply Kd.R_drewN | apply Kd.R_drew)); exact HL161_3.out) hg hat); have n6_ := Aside0.mk (hb); have n7_ := Aside0.mk (ho); clear HO_7; clear HO_8; clear BK130; clear BK141; clear HO144; clear HL161_3; clear HB; clear HO174; have HO_7 := n0_; have HO_8 := n1_; have BK130 := n2_; have BK141 := n3_; have HO144 := n4_; have HL161_3 := n5_; have HB := n6_; have HO177 := n7_; clear n0_ n1_ n2_ n3_ n4_ n5_ n6_ n7_; clear ho hb hg hat)))
                         go_roundg kj40
                         case measure => have := HK1.out; have := HJ19.out; have := HJ28.out; have := HJ40.out; omega
                         case rel => exact ⟨(y168), (x7_1), (y175), (wrap64 (x9_1 + 1)), (by first | rfl | (simp; done) | (simp [*]; done)), H', ⟨by have := HK1.out; have := HJ19.out; have := HJ28.out; have := HJ40.out; omega⟩, ⟨by (with_reducible repeat (first | apply Kd.S_alloc | apply Kd.S_drewN | apply Kd.S_drew)); exact Kd.S_mono HO144.out (fun _ hk => ⟨hk.1.1, hk.2⟩)⟩, ⟨by (with_reducible repeat (first | apply Kd.R_alloc | apply Kd.R_drewN | apply Kd.R_drew)); exact Kd.R_mono HO_7.out (fun _ hk => hk.2)⟩, ⟨by (with_reducible repeat (first | apply Kd.R_alloc | apply Kd.R_drewN | apply Kd.R_drew)); exact Kd.R_mono HO177.out (fun _ hk => hk.1)⟩, ⟨by repeat (first | (with_reducible first | exact HB.out | apply below_alloc | apply pw_below_drewN | apply below_drew1 | refine below_set ?_ GE130.out | refine below_set ?_ GE141.out) | exact HB.out)⟩⟩
                        ·rw [if_neg c89] at H
                         exact absurd H (by simp)
                       ·rw [if_neg c88] at H
                        exact absurd H (by simp)
                      ·rw [if_neg c87] at H
                       have c87b0 : (((rd_T61 l0 x9_1).f0) == 1) = false := beq_eq_false_iff_ne.mpr c87
                       have c87b1 : (((rd_T61 l0 x9_1).f0) != 1) = true := bne_iff_ne.mpr c87
                       have H' := Aside0.mk H
                       clear H
                       obtain ⟨Ao107, co107, eo107⟩ := Kd.S_slice HO_6.out
                       subst eo107
                       have hnb108 := NB141_130.out
                       have hnc108 := NB130_141.out
                       have hcz109_0 : wc.cell? ⟨gb141, 0, none⟩ = some (.int .u8 ((rd_T61 l0 x9_1).f0)) := (blk_cell BK141.out 0).trans rfl
                       have hcz109_1 : wc.cell? ⟨gb141, 1, none⟩ = some (.string x142001_40) := (blk_cell BK141.out 1).trans rfl
                       have hcz109_2 : wc.cell? ⟨gb141, 2, none⟩ = some (.int .i64 x142002_40) := (blk_cell BK141.out 2).trans rfl
                       have hcz109_3 : wc.cell? ⟨gb141, 3, none⟩ = some (.slice none 0 0) := (blk_cell BK141.out 3).trans rfl
                       have hcz109_4 : wc.cell? ⟨gb141, 4, none⟩ = some (.int .i64 ((rd_T61 l0 x9_1).f3)) := (blk_cell BK141.out 4).trans rfl
                       have hfz109_0 := blk_frozen BK141.out 0
                       have hfz109_1 := blk_frozen BK141.out 1
                       have hfz109_2 := blk_frozen BK141.out 2
                       have hfz109_3 := blk_frozen BK141.out 3
                       have hfz109_4 := blk_frozen BK141.out 4
                       go_wp2_with (first | ((with_reducible refine gate_builtin (b := .append) (xs := #[.tmp 86, .tmp 88]) rfl ?_); (try (refine gate_guard (by rfl) ?_; dsimp only)); at_builtin; refine Kd.S_append k33 (w0 := w) w.heap.size rfl (.tmp 86) (.tmp 88) 22 33 (.agg #[(.int .u8 0), (.string ⟨#[]⟩), (.int .i64 0), (.slice none 0 0), (.int .i64 0)]) 64 rfl Try.underlying22 info33 rfl (by decide) (by omega) (.slice Ao107 x6_1.length co107) x6_1 (⟨((rd_T61 l0 x9_1).f0), x142001_40, x142002_40, ([] : List Int), ((rd_T61 l0 x9_1).f3)⟩ : S33) [.int .u8 ((rd_T61 l0 x9_1).f0), .string x142001_40, .int .i64 x142002_40, .slice none 0 0, .int .i64 ((rd_T61 l0 x9_1).f3)] (fun k_ => some k_ ≠ (u7 : Value).ownBlock ∧ some k_ ≠ (u8 : Value).ownBlock ∧ k_ ≠ gb141) (fun _ => False) rfl rfl ?aP (fun k_ hk_ => hk_.elim) ?aF ?aO ?aB ?aS ?aL ?_; (case aP => exact k33_mkM _ _ _ (⟨((rd_T61 l0 x9_1).f0), x142001_40, x142002_40, ([] : List Int), ((rd_T61 l0 x9_1).f3)⟩ : S33) (Kd.R_nil _ _ _ _ _)); (case aB => exact (by repeat (first | (with_reducible first | exact HB.out | apply below_alloc | apply pw_below_drewN | apply below_drew1 | refine below_set ?_ GE130.out | refine below_set ?_ GE141.out) | exact HB.out))); (case aF => exact (fun k_ hk => ⟨Kd.fresh' (Kd.R_lt (by (with_reducible repeat (first | apply Kd.R_alloc | apply Kd.R_drewN | apply Kd.R_drew)); exact HO_7.out)) k_ hk, Kd.fresh' (Kd.R_lt (by (with_reducible repeat (first | apply Kd.R_alloc | apply Kd.R_drewN | apply Kd.R_drew)); exact HO_8.out)) k_ hk, Kd.freshB (g := gb141) (o := .cells #[.int .u8 ((rd_T61 l0 x9_1).f0), .string x142001_40, .int .i64 x142002_40, .slice none 0 0, .int .i64 ((rd_T61 l0 x9_1).f3)] 33 (0, 0)) (by (with_reducible repeat (first | refine blk_drewN ?_ _ | refine blk_drew ?_ | refine blk_alloc ?_ _)); exact BK141.out) k_ hk⟩)); (case aO => exact (by (with_reducible repeat (first | apply Kd.S_alloc | apply Kd.S_drewN | apply Kd.S_drew)); exact Kd.S_mono HO_6.out (fun k_ hk => ⟨⟨hk.1, ⟨hk.2.1, hk.2.2⟩⟩, fun e_ => e_⟩))); (case aS => exact (below_size (by repeat (first | (with_reducible first | exact HB.out | apply below_alloc | apply pw_below_drewN | apply below_drew1 | refine below_set ?_ GE130.out | refine below_set ?_ GE141.out) | exact HB.out)))); (case aL => have := LMc55.out; omega); intro v143 w110 ho hb hg hat; rw [← Ny142.out] at ho; have n0_ := Aside0.mk (Kd.R_over' (by (with_reducible repeat (first | apply Kd.R_alloc | apply Kd.R_drewN | apply Kd.R_drew)); exact HO_7.out) (Kd.S_typed (by (with_reducible repeat (first | apply Kd.S_alloc | apply Kd.S_drewN | apply Kd.S_drew)); exact HO_6.out)) (by decide) hg); have n1_ := Aside0.mk (Kd.R_over' (by (with_reducible repeat (first | apply Kd.R_alloc | apply Kd.R_drewN | apply Kd.R_drew)); exact HO_8.out) (Kd.S_typed (by (with_reducible repeat (first | apply Kd.S_alloc | apply Kd.S_drewN | apply Kd.S_drew)); exact HO_6.out)) (by decide) hg); have n2_ := Aside0.mk (blk_grown (g := gb130) (o := .cells #[.int .u8 ((rd_T61 l0 x9_1).f0), .string ((rd_T61 l0 x9_1).f1), .int .i64 ((rd_T61 l0 x9_1).f2), .int .i64 ((rd_T61 l0 x9_1).f3)] 61 (0, 0)) (by (with_reducible repeat (first | refine blk_drewN ?_ _ | refine blk_drew ?_ | refine blk_alloc ?_ _)); exact BK130.out) hg (Kd.S_ne HO_6.out BK130.out (by decide))); have n3_ := Aside0.mk (blk_grown (g := gb141) (o := .cells #[.int .u8 ((rd_T61 l0 x9_1).f0), .string x142001_40, .int .i64 x142002_40, .slice none 0 0, .int .i64 ((rd_T61 l0 x9_1).f3)] 33 (0, 0)) (by (with_reducible repeat (first | refine blk_drewN ?_ _ | refine blk_drew ?_ | refine blk_alloc ?_ _)); exact BK141.out) hg (Kd.S_away HO_6.out (fun _ hk => hk.2.2))); have n4_ := Aside0.mk (hb); have n5_ := Aside0.mk (ho); clear HO_7; clear HO_8; clear BK130; clear BK141; clear HB; clear HO_6; have HO_7 := n0_; have HO_8 := n1_; have BK130 := n2_; have BK141 := n3_; have HB := n4_; have HO144 := n5_; clear n0_ n1_ n2_ n3_ n4_ n5_; clear ho hb hg hat; obtain ⟨Ao111, co111, eo111⟩ := Kd.R_slice HO_8.out; subst eo111; have p157 : 0 ≤ ((ji79) : Int) := of_decide_eq_true (by first | (with_reducible assumption) | assumption); have q157 : (ji79) < (x8_1.length : Int) := of_decide_eq_true (by first | (with_reducible assumption) | assumption); obtain ⟨ad157, e157, hx157_0⟩ := Kd.at_int (Kd.R_reads' HO_8.out).2.2 (ji79) p157 q157; cases e157; replace p157 := eq_true p157; replace q157 := eq_true q157) | ((with_reducible refine gate_dst (N := 105) rfl ?_); (try (refine gate_guard (by rfl) ?_; dsimp only)); refine Kd.R_lit (Kd.int .i64) _ 3 ?hg (N := 105) ?hd (xs := ([] : List Int)) (inner := []) (ok := fun _ => True) (okp := fun _ => True) ?hr ?hp (fun _ hk => hk) trivial (Below.refl _ _) (Nat.le_refl _) (by simp) ?_; (case hd => rfl); (case hg => rfl); (case hr => first | (go_simp; done) | (go_simp; rfl)); (case hp => exact (Reps.none _ _)); intro v159 w112 ho113 hb hg_ hnew_; clear hg_ hnew_; (first | rw [← Ny158.out] at ho113 | (simp only [Int.reduceToNat] at ho113; rw [← Ny158.out] at ho113)); have n0_ := Aside0.mk (Kd.R_elder' (by (with_reducible repeat (first | apply Kd.R_alloc | apply Kd.R_drewN | apply Kd.R_drew)); exact HO_7.out) (Kd.R_base ho113) hb); have n1_ := Aside0.mk (Kd.R_elder' (by (with_reducible repeat (first | apply Kd.R_alloc | apply Kd.R_drewN | apply Kd.R_drew)); exact HO_8.out) (Kd.R_base ho113) hb); have n2_ := Aside0.mk (Kd.S_elder' (by (with_reducible repeat (first | apply Kd.S_alloc | apply Kd.S_drewN | apply Kd.S_drew)); exact HO144.out) (Kd.R_base ho113) hb); have n3_ := Aside0.mk (Kd.R_lower (Kd.R_new' (Kd.R_new' ho113 (Kd.R_lt (by (with_reducible repeat (first | apply Kd.R_alloc | apply Kd.R_drewN | apply Kd.R_drew)); exact HO_7.out))) (Kd.R_lt (by (with_reducible repeat (first | apply Kd.R_alloc | apply Kd.R_drewN | apply Kd.R_drew)); exact HO_8.out))) (below_size (by repeat (first | (with_reducible first | exact HB.out | apply below_alloc | apply pw_below_drewN | apply below_drew1 | refine below_set ?_ GE130.out | refine below_set ?_ GE141.out) | exact HB.out)))); have n4_ := Aside0.mk (blk_below (g := gb130) (o := .cells #[.int .u8 ((rd_T61 l0 x9_1).f0), .string ((rd_T61 l0 x9_1).f1), .int .i64 ((rd_T61 l0 x9_1).f2), .int .i64 ((rd_T61 l0 x9_1).f3)] 61 (0, 0)) (by (with_reducible repeat (first | refine blk_drewN ?_ _ | refine blk_drew ?_ | refine blk_alloc ?_ _)); exact BK130.out) hb); have n5_ := Aside0.mk (blk_below (g := gb141) (o := .cells #[.int .u8 ((rd_T61 l0 x9_1).f0), .string x142001_40, .int .i64 x142002_40, .slice none 0 0, .int .i64 ((rd_T61 l0 x9_1).f3)] 33 (0, 0)) (by (with_reducible repeat (first | refine blk_drewN ?_ _ | refine blk_drew ?_ | refine blk_alloc ?_ _)); exact BK141.out) hb); have n6_ := Aside0.mk (below_step (by repeat (first | (with_reducible first | exact HB.out | apply below_alloc | apply pw_below_drewN | apply below_drew1 | refine below_set ?_ GE130.out | refine below_set ?_ GE141.out) | exact HB.out)) hb); clear HO_7; clear HO_8; clear HO144; clear BK130; clear BK141; clear HB; have HO_7 := n0_; have HO_8 := n1_; have HO144 := n2_; have HO160 := n3_; have BK130 := n4_; have BK141 := n5_; have HB := n6_; clear n0_ n1_ n2_ n3_ n4_ n5_ n6_; clear hb ho113; obtain ⟨Ao114, co114, eo114⟩ := Kd.S_slice HO144.out; subst eo114; have p161 : 0 ≤ ((rd x8_1 (ji79)) : Int) := of_decide_eq_true (by first | (with_reducible assumption) | assumption); have q161 : (rd x8_1 (ji79)) < (y142.length : Int) := of_decide_eq_true (by first | (with_reducible assumption) | assumption); obtain ⟨ad161, A161_3, c161_3, e161, hx161_0, hx161_1, hx161_2, hx161_3, hx161_4, hl161_3, hi161_3⟩ := at_T33 (Kd.S_reads' HO144.out).2.2 (rd x8_1 (ji79)) p161 q161; cases e161; obtain ⟨ce161, hce161, hMe161, hcc161⟩ := Kd.S_get HO144.out z33 (rd x8_1 (ji79)) p161 (by first | exact q161 | exact of_decide_eq_true (by first | (with_reducible assumption) | assumption) | (have e_ := (Kd.S_reads' HO144.out).1; omega)); obtain ⟨ve161_3, rfl, ge161_3⟩ := k33_openM hMe161; have hv161_3 := hcc161 3 _ rfl; rw [add_field _ _ 3 (by omega)] at hv161_3; replace hv161_3 := Option.some.inj (hv161_3.symm.trans hx161_3); rw [hv161_3] at ge161_3; have HL161_3 := Aside0.mk (show Kd.R (Kd.int .i64) 3 _ _ _ _ ((rd_T33 y142 (rd x8_1 (ji79))).f3) from ge161_3); clear hv161_3 ge161_3; clear hcc161 hce161; have HR161_3 := Aside0.mk hi161_3; have HC161_3 := Aside0.mk hl161_3; clear hi161_3 hl161_3; replace p161 := eq_true p161; replace q161 := eq_true q161) | ((with_reducible refine gate_builtin (b := .append) (xs := #[.tmp 105, .tmp 110]) rfl ?_); (try (refine gate_guard (by rfl) ?_; dsimp only)); at_builtin; refine Kd.R_append_rows (Kd.int .i64) (w0 := w) w.heap.size rfl (.tmp 105) (.tmp 110) 23 3 (.int .i64 0) 8 rfl Try.underlying23 info3 rfl (by decide) (by omega) v159 y158 ((rd_T33 y142 (rd x8_1 (ji79))).f3) _ _ _ (fun k_ => some k_ ≠ (u7 : Value).ownBlock ∧ some k_ ≠ (.slice (some ad157) x8_1.length co111 : Value).ownBlock) (fun _ => False) rfl rfl ?aO ?aR (fun _ _ h => h) (fun _ h => h.elim) ?aF ?aB ?aS ?aL ?_; (case aR => repeat (first | exact (by repeat (first | (with_reducible exact HR161_3.out) | (with_reducible refine Kd.C_alloc ?_ _) | (with_reducible refine Kd.C_drewN ?_ _) | (with_reducible refine Kd.C_drew ?_) | exact HR161_3.out)) | (with_reducible refine Kd.C_alloc ?_ _) | (with_reducible refine Kd.C_drewN ?_ _) | (with_reducible refine Kd.C_drew ?_))); (case aB => exact (by repeat (first | (with_reducible first | exact HB.out | apply below_alloc | apply pw_below_drewN | apply below_drew1 | refine below_set ?_ GE130.out | refine below_set ?_ GE141.out) | exact HB.out))); (case aF => exact (fun k_ hk => ⟨Kd.fresh' (Kd.R_lt (by (with_reducible repeat (first | apply Kd.R_alloc | apply Kd.R_drewN | apply Kd.R_drew)); exact HO_7.out)) k_ hk, Kd.fresh' (Kd.R_lt (by (with_reducible repeat (first | apply Kd.R_alloc | apply Kd.R_drewN | apply Kd.R_drew)); exact HO_8.out)) k_ hk⟩)); (case aO => exact (by (with_reducible repeat (first | apply Kd.R_alloc | apply Kd.R_drewN | apply Kd.R_drew)); exact Kd.R_mono HO160.out (fun _ hk => ⟨hk.1.2, hk.2⟩))); (case aS => exact (below_size (by repeat (first | (with_reducible first | exact HB.out | apply below_alloc | apply pw_below_drewN | apply below_drew1 | refine below_set ?_ GE130.out | refine below_set ?_ GE141.out) | exact HB.out)))); (case aL => have := LMc84.out; omega); intro v163 w115 ho hb hg hat; rw [← Ny162.out] at ho; have n0_ := Aside0.mk (Kd.R_after (ok := (fun k_ => some k_ ≠ (.slice (some ad157) x8_1.length co111 : Value).ownBlock)) (by (with_reducible repeat (first | apply Kd.R_alloc | apply Kd.R_drewN | apply Kd.R_drew)); exact HO_7.out) hg hat); have n1_ := Aside0.mk (Kd.R_after (ok := (fun k_ => some k_ ≠ (u7 : Value).ownBlock)) (by (with_reducible repeat (first | apply Kd.R_alloc | apply Kd.R_drewN | apply Kd.R_drew)); exact HO_8.out) hg hat); have n2_ := Aside0.mk (blk_grown (g := gb130) (o := .cells #[.int .u8 ((rd_T61 l0 x9_1).f0), .string ((rd_T61 l0 x9_1).f1), .int .i64 ((rd_T61 l0 x9_1).f2), .int .i64 ((rd_T61 l0 x9_1).f3)] 61 (0, 0)) (by (with_reducible repeat (first | refine blk_drewN ?_ _ | refine blk_drew ?_ | refine blk_alloc ?_ _)); exact BK130.out) hg (Kd.R_ne HO160.out BK130.out (by decide))); have n3_ := Aside0.mk (blk_grown (g := gb141) (o := .cells #[.int .u8 ((rd_T61 l0 x9_1).f0), .string x142001_40, .int .i64 x142002_40, .slice none 0 0, .int .i64 ((rd_T61 l0 x9_1).f3)] 33 (0, 0)) (by (with_reducible repeat (first | refine blk_drewN ?_ _ | refine blk_drew ?_ | refine blk_alloc ?_ _)); exact BK141.out) hg (Kd.R_ne HO160.out BK141.out (by decide))); have n4_ := Aside0.mk (Kd.S_after (ok := (fun k_ => some k_ ≠ (u7 : Value).ownBlock ∧ some k_ ≠ (.slice (some ad157) x8_1.length co111 : Value).ownBlock ∧ k_ ≠ gb141)) (by (with_reducible repeat (first | apply Kd.S_alloc | apply Kd.S_drewN | apply Kd.S_drew)); exact HO144.out) hg hat); have n5_ := Aside0.mk (Kd.R_after (ok := (fun k_ => some k_ ≠ (u7 : Value).ownBlock ∧ some k_ ≠ (.slice (some ad157) x8_1.length co111 : Value).ownBlock ∧ some k_ ≠ (.slice (some ad161) y142.length co114 : Value).ownBlock ∧ k_ ≠ gb141)) (by (with_reducible repeat (first | apply Kd.R_alloc | apply Kd.R_drewN | apply Kd.R_drew)); exact Kd.R_mono HL161_3.out (fun _ hk => ⟨⟨hk.1.1.1, ⟨hk.1.1.2.1, ⟨hk.2, hk.1.1.2.2⟩⟩⟩, hk.1.2⟩)) hg hat); have n6_ := Aside0.mk (hb); have n7_ := Aside0.mk (ho); clear HO_7; clear HO_8; clear BK130; clear BK141; clear HO144; clear HL161_3; clear HB; clear HO160; have HO_7 := n0_; have HO_8 := n1_; have BK130 := n2_; have BK141 := n3_; have HO144 := n4_; have HL161_3 := n5_; have HB := n6_; have HO164 := n7_; clear n0_ n1_ n2_ n3_ n4_ n5_ n6_ n7_; clear ho hb hg hat) | ((with_reducible refine gate_builtin (b := .append) (xs := #[.tmp 111, .tmp 113]) rfl ?_); (try (refine gate_guard (by rfl) ?_; dsimp only)); at_builtin; refine Kd.R_append (Kd.int .i64) (w0 := w) w.heap.size rfl (.tmp 111) (.tmp 113) 23 3 (.int .i64 0) 8 rfl Try.underlying23 info3 rfl (by decide) (by omega) v163 y162 (x6_1.length : Int) [.int .i64 (x6_1.length : Int)] (fun k_ => some k_ ≠ (u7 : Value).ownBlock ∧ some k_ ≠ (.slice (some ad157) x8_1.length co111 : Value).ownBlock) (fun _ => False) rfl rfl ?aP (fun _ hk => hk.elim) ?aF ?aO ?aB ?aS ?aL ?_; (case aP => exact rfl); (case aB => exact (by repeat (first | (with_reducible first | exact HB.out | apply below_alloc | apply pw_below_drewN | apply below_drew1 | refine below_set ?_ GE130.out | refine below_set ?_ GE141.out) | exact HB.out))); (case aF => exact (fun k_ hk => ⟨Kd.fresh' (Kd.R_lt (by (with_reducible repeat (first | apply Kd.R_alloc | apply Kd.R_drewN | apply Kd.R_drew)); exact HO_7.out)) k_ hk, Kd.fresh' (Kd.R_lt (by (with_reducible repeat (first | apply Kd.R_alloc | apply Kd.R_drewN | apply Kd.R_drew)); exact HO_8.out)) k_ hk⟩)); (case aO => exact (by (with_reducible repeat (first | apply Kd.R_alloc | apply Kd.R_drewN | apply Kd.R_drew)); exact HO164.out)); (case aS => exact (below_size (by repeat (first | (with_reducible first | exact HB.out | apply below_alloc | apply pw_below_drewN | apply below_drew1 | refine below_set ?_ GE130.out | refine below_set ?_ GE141.out) | exact HB.out)))); (case aL => have := LMc85.out; omega); intro v166 w116 ho hb hg hat; rw [← Ny165.out] at ho; have n0_ := Aside0.mk (Kd.R_after (ok := (fun k_ => some k_ ≠ (.slice (some ad157) x8_1.length co111 : Value).ownBlock)) (by (with_reducible repeat (first | apply Kd.R_alloc | apply Kd.R_drewN | apply Kd.R_drew)); exact HO_7.out) hg hat); have n1_ := Aside0.mk (Kd.R_after (ok := (fun k_ => some k_ ≠ (u7 : Value).ownBlock)) (by (with_reducible repeat (first | apply Kd.R_alloc | apply Kd.R_drewN | apply Kd.R_drew)); exact HO_8.out) hg hat); have n2_ := Aside0.mk (blk_grown (g := gb130) (o := .cells #[.int .u8 ((rd_T61 l0 x9_1).f0), .string ((rd_T61 l0 x9_1).f1), .int .i64 ((rd_T61 l0 x9_1).f2), .int .i64 ((rd_T61 l0 x9_1).f3)] 61 (0, 0)) (by (with_reducible repeat (first | refine blk_drewN ?_ _ | refine blk_drew ?_ | refine blk_alloc ?_ _)); exact BK130.out) hg (Kd.R_ne HO164.out BK130.out (by decide))); have n3_ := Aside0.mk (blk_grown (g := gb141) (o := .cells #[.int .u8 ((rd_T61 l0 x9_1).f0), .string x142001_40, .int .i64 x142002_40, .slice none 0 0, .int .i64 ((rd_T61 l0 x9_1).f3)] 33 (0, 0)) (by (with_reducible repeat (first | refine blk_drewN ?_ _ | refine blk_drew ?_ | refine blk_alloc ?_ _)); exact BK141.out) hg (Kd.R_ne HO164.out BK141.out (by decide))); have n4_ := Aside0.mk (Kd.S_after (ok := (fun k_ => some k_ ≠ (u7 : Value).ownBlock ∧ some k_ ≠ (.slice (some ad157) x8_1.length co111 : Value).ownBlock ∧ k_ ≠ gb141)) (by (with_reducible repeat (first | apply Kd.S_alloc | apply Kd.S_drewN | apply Kd.S_drew)); exact HO144.out) hg hat); have n5_ := Aside0.mk (Kd.R_after (ok := (fun k_ => some k_ ≠ (u7 : Value).ownBlock ∧ some k_ ≠ (.slice (some ad157) x8_1.length co111 : Value).ownBlock ∧ some k_ ≠ (.slice (some ad161) y142.length co114 : Value).ownBlock ∧ k_ ≠ gb141)) (by (with_reducible repeat (first | apply Kd.R_alloc | apply Kd.R_drewN | apply Kd.R_drew)); exact HL161_3.out) hg hat); have n6_ := Aside0.mk (hb); have n7_ := Aside0.mk (ho); clear HO_7; clear HO_8; clear BK130; clear BK141; clear HO144; clear HL161_3; clear HB; clear HO164; have HO_7 := n0_; have HO_8 := n1_; have BK130 := n2_; have BK141 := n3_; have HO144 := n4_; have HL161_3 := n5_; have HB := n6_; have HO167 := n7_; clear n0_ n1_ n2_ n3_ n4_ n5_ n6_ n7_; clear ho hb hg hat; have p86 : 0 ≤ ((rd x8_1 (ji79)) : Int) := of_decide_eq_true (by first | (with_reducible assumption) | assumption); have q86 : ((rd x8_1 (ji79)) : Int) < ((y142.length : Int) : Int) := of_decide_eq_true (by first | (with_reducible assumption) | assumption); obtain ⟨go86, co86, eo86, gb86, gl86, cl86, HG86⟩ := Kd.S_form HO144.out (by omega); (first | cases eo86 | (injection eo86 with ea_ en_ ec_; (first | subst ea_ | (injection ea_ with ea_; subst ea_)); subst ec_; clear en_)); have GB86 := Aside0.mk gb86; have GG86 := Aside0.mk HG86; clear gb86 gl86 HG86; (first | simp only [add_plain] at hx161_0 | skip); (first | simp only [add_plain] at hx161_1 | skip); (first | simp only [add_plain] at hx161_2 | skip); (first | simp only [add_plain] at hx161_3 | skip); (first | simp only [add_plain] at hx161_4 | skip); obtain ⟨_, ce86, hcl86, hM86, hcc86, hfr86, _, _⟩ := Kd.S_elem HO144.out z33 ((rd x8_1 (ji79)) : Int) p86 q86; obtain ⟨ve86_3, rfl, ge86_3⟩ := k33_openM hM86; have hx86_0 : w116.cell? ⟨go86, ((rd x8_1 (ji79)) : Int).toNat * 5, none⟩ = some (.int .u8 ((rd_T33 y142 (rd x8_1 (ji79))).f0)) := hcc86 0 _ rfl; have hx86_1 : w116.cell? ⟨go86, ((rd x8_1 (ji79)) : Int).toNat * 5 + 1, none⟩ = some (.string ((rd_T33 y142 (rd x8_1 (ji79))).f1)) := hcc86 1 _ rfl; have hx86_2 : w116.cell? ⟨go86, ((rd x8_1 (ji79)) : Int).toNat * 5 + 2, none⟩ = some (.int .i64 ((rd_T33 y142 (rd x8_1 (ji79))).f2)) := hcc86 2 _ rfl; have hx86_3 : w116.cell? ⟨go86, ((rd x8_1 (ji79)) : Int).toNat * 5 + 3, none⟩ = some (ve86_3) := hcc86 3 _ rfl; have hx86_4 : w116.cell? ⟨go86, ((rd x8_1 (ji79)) : Int).toNat * 5 + 4, none⟩ = some (.int .i64 ((rd_T33 y142 (rd x8_1 (ji79))).f4)) := hcc86 4 _ rfl; have hf86_0 : w116.frozen? ⟨go86, ((rd x8_1 (ji79)) : Int).toNat * 5, none⟩ = false := hfr86 0; have hf86_1 : w116.frozen? ⟨go86, ((rd x8_1 (ji79)) : Int).toNat * 5 + 1, none⟩ = false := hfr86 1; have hf86_2 : w116.frozen? ⟨go86, ((rd x8_1 (ji79)) : Int).toNat * 5 + 2, none⟩ = false := hfr86 2; have hf86_3 : w116.frozen? ⟨go86, ((rd x8_1 (ji79)) : Int).toNat * 5 + 3, none⟩ = false := hfr86 3; have hf86_4 : w116.frozen? ⟨go86, ((rd x8_1 (ji79)) : Int).toNat * 5 + 4, none⟩ = false := hfr86 4; clear hcl86 hcc86 hfr86 hM86; replace p86 := eq_true p86; replace q86 := eq_true q86; have n_ := Aside0.mk (Kd.S_mono (ok' := (fun k_ => some k_ ≠ (u7 : Value).ownBlock ∧ some k_ ≠ (.slice (some ad157) x8_1.length co111 : Value).ownBlock ∧ some k_ ≠ (v166 : Value).ownBlock ∧ k_ ≠ gb141)) HO144.out (fun k_ hk => ⟨hk.1.1, ⟨hk.1.2.1, ⟨hk.2, hk.1.2.2⟩⟩⟩)); clear HO144; have HO144 := n_; clear n_; have HX117 := Aside0.mk (show Kd.S k33 33 w116 w.heap.size (fun k_ => ((fun k_ => some k_ ≠ (u7 : Value).ownBlock ∧ some k_ ≠ (.slice (some ad157) x8_1.length co111 : Value).ownBlock ∧ k_ ≠ gb141)) k_ ∧ ¬ ((fun k_ => some k_ = (v166 : Value).ownBlock)) k_) (.slice (some ⟨go86, 0, none⟩) y142.length co114) y142 from (by (with_reducible repeat (first | apply Kd.S_alloc | apply Kd.S_drewN | apply Kd.S_drew)); exact Kd.S_mono HO144.out (fun k_ hk => ⟨⟨hk.1, ⟨hk.2.1, hk.2.2.2⟩⟩, fun e_ => hk.2.2.1 e_⟩))); obtain ⟨oki117, ce117, hcl117, hM117, hcc117, hfr117, hoki117, hH117⟩ := Kd.S_elem HX117.out z33 ((rd x8_1 (ji79)) : Int) (of_decide_eq_true (by first | (with_reducible assumption) | assumption)) (by have h_ : ((rd x8_1 (ji79)) : Int) < ((y142.length : Int) : Int) := of_decide_eq_true (by first | (with_reducible assumption) | assumption); first | exact h_ | (have e_ := (Kd.S_reads' HO144.out).1; omega) | simpa using h_); obtain ⟨ve117_3, rfl, ge117_3⟩ := k33_openM hM117; have HP117 := Kd.S_seg hH117 (of_decide_eq_true (by first | (with_reducible assumption) | assumption)) (by have h_ : ((rd x8_1 (ji79)) : Int) < ((y142.length : Int) : Int) := of_decide_eq_true (by first | (with_reducible assumption) | assumption); first | exact h_ | (have e_ := (Kd.S_reads' HO144.out).1; omega) | simpa using h_) (seg := [v166]) (j := 3) (show 4 ≤ 5 from by decide) (x' := (⟨(rd_T33 y142 (rd x8_1 (ji79))).f0, (rd_T33 y142 (rd x8_1 (ji79))).f1, (rd_T33 y142 (rd x8_1 (ji79))).f2, y165, (rd_T33 y142 (rd x8_1 (ji79))).f4⟩ : S33)) (k33_mkM _ _ _ (⟨(rd_T33 y142 (rd x8_1 (ji79))).f0, (rd_T33 y142 (rd x8_1 (ji79))).f1, (rd_T33 y142 (rd x8_1 (ji79))).f2, y165, (rd_T33 y142 (rd x8_1 (ji79))).f4⟩ : S33) (Kd.R_mono (Kd.R_tight rfl (Kd.R_mono (ok' := fun k_ => ((fun k_ => some k_ ≠ (u7 : Value).ownBlock ∧ some k_ ≠ (.slice (some ad157) x8_1.length co111 : Value).ownBlock ∧ k_ ≠ gb141)) k_ ∧ k_ ≠ go86) (Kd.R_types (Kd.R_apart' (HO167.out) (Kd.S_typed HO144.out) (by decide)) BK141.out (by decide)) (fun k_ hk => ⟨⟨hk.1.1.1, ⟨hk.1.1.2, hk.2⟩⟩, fun e_ => (hk.1.2) (by rw [e_]; rfl)⟩))) (fun _ h_ => Or.inr (h_)))) (fun _ hk => hk) (fun k_ hk_ => ((Kd.R_mono (ok' := fun k_ => ((fun k_ => some k_ ≠ (u7 : Value).ownBlock ∧ some k_ ≠ (.slice (some ad157) x8_1.length co111 : Value).ownBlock ∧ k_ ≠ gb141)) k_ ∧ k_ ≠ go86) (Kd.R_types (Kd.R_apart' (HO167.out) (Kd.S_typed HO144.out) (by decide)) BK141.out (by decide)) (fun k_ hk => ⟨⟨hk.1.1.1, ⟨hk.1.1.2, hk.2⟩⟩, fun e_ => (hk.1.2) (by rw [e_]; rfl)⟩))).1 k_ hk_.symm); have hx117_3 := hcc117 3 _ rfl; (try simp only [show (k33).sz = 5 from rfl, Nat.mul_one, Nat.add_zero] at hx117_3); have hf117_3 := hfr117 3; (try simp only [show (k33).sz = 5 from rfl, Nat.mul_one, Nat.add_zero] at hf117_3); clear hcl117 hcc117 hfr117 hM117 hoki117 hH117) | ((with_reducible refine gate_store (t := 23) (p := 116) rfl ?_); (try (rw [drewN_self w116]; generalize hq_ : World.drewN w116 _ = w116; have n0_ := Aside0.mk (Kd.R_at hq_ HO_7.out); have n1_ := Aside0.mk (Kd.R_at hq_ HO_8.out); have n2_ := Aside0.mk (Kd.S_at hq_ HO144.out); have n3_ := Aside0.mk (Kd.R_at hq_ HL161_3.out); have n4_ := Aside0.mk (blk_at hq_ BK130.out); have n5_ := Aside0.mk (blk_at hq_ BK141.out); have n6_ := Aside0.mk (below_at hq_ HB.out); clear hq_ HO_7 HO_8 HO144 HL161_3 BK130 BK141 HB; have HO_7 := n0_; have HO_8 := n1_; have HO144 := n2_; have HL161_3 := n3_; have BK130 := n4_; have BK141 := n5_; have HB := n6_; clear n0_ n1_ n2_ n3_ n4_ n5_ n6_; (try (have n_ := Aside0.mk (Kd.S_mono (ok' := (fun k_ => some k_ ≠ (u7 : Value).ownBlock ∧ some k_ ≠ (.slice (some ad157) x8_1.length co111 : Value).ownBlock ∧ some k_ ≠ (v166 : Value).ownBlock ∧ k_ ≠ gb141)) HO144.out (fun k_ hk => ⟨hk.1.1, ⟨hk.1.2.1, ⟨hk.2, hk.1.2.2⟩⟩⟩)); clear HO144; have HO144 := n_; clear n_)); (try (have HX117 := Aside0.mk (show Kd.S k33 33 w116 w.heap.size (fun k_ => ((fun k_ => some k_ ≠ (u7 : Value).ownBlock ∧ some k_ ≠ (.slice (some ad157) x8_1.length co111 : Value).ownBlock ∧ k_ ≠ gb141)) k_ ∧ ¬ ((fun k_ => some k_ = (v166 : Value).ownBlock)) k_) (.slice (some ⟨go86, 0, none⟩) y142.length co114) y142 from (by (with_reducible repeat (first | apply Kd.S_alloc | apply Kd.S_drewN | apply Kd.S_drew)); exact Kd.S_mono HO144.out (fun k_ hk => ⟨⟨hk.1, ⟨hk.2.1, hk.2.2.2⟩⟩, fun e_ => hk.2.2.1 e_⟩))))); (try (obtain ⟨oki117, ce117, hcl117, hM117, hcc117, hfr117, hoki117, hH117⟩ := Kd.S_elem HX117.out z33 ((rd x8_1 (ji79)) : Int) (of_decide_eq_true (by first | (with_reducible assumption) | assumption)) (by have h_ : ((rd x8_1 (ji79)) : Int) < ((y142.length : Int) : Int) := of_decide_eq_true (by first | (with_reducible assumption) | assumption); first | exact h_ | (have e_ := (Kd.S_reads' HO144.out).1; omega) | simpa using h_))); (try (obtain ⟨ve117_3, rfl, ge117_3⟩ := k33_openM hM117)); (try (have HP117 := Kd.S_seg hH117 (of_decide_eq_true (by first | (with_reducible assumption) | assumption)) (by have h_ : ((rd x8_1 (ji79)) : Int) < ((y142.length : Int) : Int) := of_decide_eq_true (by first | (with_reducible assumption) | assumption); first | exact h_ | (have e_ := (Kd.S_reads' HO144.out).1; omega) | simpa using h_) (seg := [v166]) (j := 3) (show 4 ≤ 5 from by decide) (x' := (⟨(rd_T33 y142 (rd x8_1 (ji79))).f0, (rd_T33 y142 (rd x8_1 (ji79))).f1, (rd_T33 y142 (rd x8_1 (ji79))).f2, y165, (rd_T33 y142 (rd x8_1 (ji79))).f4⟩ : S33)) (k33_mkM _ _ _ (⟨(rd_T33 y142 (rd x8_1 (ji79))).f0, (rd_T33 y142 (rd x8_1 (ji79))).f1, (rd_T33 y142 (rd x8_1 (ji79))).f2, y165, (rd_T33 y142 (rd x8_1 (ji79))).f4⟩ : S33) (Kd.R_mono (Kd.R_tight rfl (Kd.R_mono (ok' := fun k_ => ((fun k_ => some k_ ≠ (u7 : Value).ownBlock ∧ some k_ ≠ (.slice (some ad157) x8_1.length co111 : Value).ownBlock ∧ k_ ≠ gb141)) k_ ∧ k_ ≠ go86) (Kd.R_types (Kd.R_apart' (HO167.out) (Kd.S_typed HO144.out) (by decide)) BK141.out (by decide)) (fun k_ hk => ⟨⟨hk.1.1.1, ⟨hk.1.1.2, hk.2⟩⟩, fun e_ => (hk.1.2) (by rw [e_]; rfl)⟩))) (fun _ h_ => Or.inr (h_)))) (fun _ hk => hk) (fun k_ hk_ => ((Kd.R_mono (ok' := fun k_ => ((fun k_ => some k_ ≠ (u7 : Value).ownBlock ∧ some k_ ≠ (.slice (some ad157) x8_1.length co111 : Value).ownBlock ∧ k_ ≠ gb141)) k_ ∧ k_ ≠ go86) (Kd.R_types (Kd.R_apart' (HO167.out) (Kd.S_typed HO144.out) (by decide)) BK141.out (by decide)) (fun k_ hk => ⟨⟨hk.1.1.1, ⟨hk.1.1.2, hk.2⟩⟩, fun e_ => (hk.1.2) (by rw [e_]; rfl)⟩))).1 k_ hk_.symm))); (try (have hx117_3 := hcc117 3 _ rfl)); (try (try simp only [show (k33).sz = 5 from rfl, Nat.mul_one, Nat.add_zero] at hx117_3)); (try (have hf117_3 := hfr117 3)); (try (try simp only [show (k33).sz = 5 from rfl, Nat.mul_one, Nat.add_zero] at hf117_3)); (try (clear hcl117 hcc117 hfr117 hM117 hoki117 hH117)))); refine store_event (t := 23) (p := 116) (v := ?vo_w118) (w1 := (w116.setCell ⟨go86, ((rd x8_1 (ji79)) : Int).toNat * 5 + 3, none⟩ (v166))) ?hg ?ho ?hn ?hr ?_; (case ho => rfl); (case hg => rfl); (case hn => rfl); (case hr => first | (go_simp; done) | (go_simp; rfl) | (obtain ⟨A_, c_, hA_⟩ := Kd.R_slice HO167.out; subst hA_; first | (go_simp; done) | (go_simp; rfl))); intro w118 hw; have hg : w116.grownBy w118 (some go86) := (by rw [hw]; exact HP117.2); have hp_ : Kd.S k33 33 w118 w.heap.size (fun k_ => some k_ ≠ (u7 : Value).ownBlock ∧ some k_ ≠ (.slice (some ad157) x8_1.length co111 : Value).ownBlock ∧ k_ ≠ gb141) (.slice (some ⟨go86, 0, none⟩) y142.length co114) y168 := (by rw [hw, Ny168.out]; exact HP117.1); clear HP117; have n0_ := Aside0.mk (Kd.R_over' (v := (.slice (some ⟨go86, 0, none⟩) y142.length co114)) (by (with_reducible repeat (first | apply Kd.R_alloc | apply Kd.R_drewN | apply Kd.R_drew)); exact HO_7.out) (Kd.S_typed HO144.out) (by decide) hg); have n1_ := Aside0.mk (Kd.R_over' (v := (.slice (some ⟨go86, 0, none⟩) y142.length co114)) (by (with_reducible repeat (first | apply Kd.R_alloc | apply Kd.R_drewN | apply Kd.R_drew)); exact HO_8.out) (Kd.S_typed HO144.out) (by decide) hg); have n2_ := Aside0.mk (blk_grown (g := gb130) (o := .cells #[.int .u8 ((rd_T61 l0 x9_1).f0), .string ((rd_T61 l0 x9_1).f1), .int .i64 ((rd_T61 l0 x9_1).f2), .int .i64 ((rd_T61 l0 x9_1).f3)] 61 (0, 0)) (by (with_reducible repeat (first | refine blk_drewN ?_ _ | refine blk_drew ?_ | refine blk_alloc ?_ _)); exact BK130.out) hg (Kd.S_ne HO144.out BK130.out (by decide))); have n3_ := Aside0.mk (blk_grown (g := gb141) (o := .cells #[.int .u8 ((rd_T61 l0 x9_1).f0), .string x142001_40, .int .i64 x142002_40, .slice none 0 0, .int .i64 ((rd_T61 l0 x9_1).f3)] 33 (0, 0)) (by (with_reducible repeat (first | refine blk_drewN ?_ _ | refine blk_drew ?_ | refine blk_alloc ?_ _)); exact BK141.out) hg (Kd.S_away HO144.out (fun _ hk => hk.2.2.2))); have n4_ := Aside0.mk (hp_); have n5_ := Aside0.mk (Kd.R_after (v := (.slice (some ⟨go86, 0, none⟩) y142.length co114)) (v1 := (.slice (some ⟨go86, 0, none⟩) y142.length co114)) (ok := (fun k_ => some k_ ≠ (u7 : Value).ownBlock ∧ some k_ ≠ (.slice (some ad157) x8_1.length co111 : Value).ownBlock ∧ some k_ ≠ (v166 : Value).ownBlock ∧ k_ ≠ gb141)) (by (with_reducible repeat (first | apply Kd.R_alloc | apply Kd.R_drewN | apply Kd.R_drew)); exact Kd.R_mono HL161_3.out (fun _ hk => ⟨⟨hk.1.1, ⟨hk.1.2.1, ⟨hk.2, hk.1.2.2.2⟩⟩⟩, hk.1.2.2.1⟩)) hg (.inl rfl)); have n6_ := Aside0.mk ((by rw [hw]; exact below_set (HB.out) GB86.out : Below w.heap.size w w118)); clear HO_7; clear HO_8; clear BK130; clear BK141; clear HO144; clear HL161_3; clear HB; clear HO167; have HO_7 := n0_; have HO_8 := n1_; have BK130 := n2_; have BK141 := n3_; have HO144 := n4_; have HL161_3 := n5_; have HB := n6_; clear n0_ n1_ n2_ n3_ n4_ n5_ n6_; clear hg hw hp_; have hcz119_0 : w118.cell? ⟨gb130, 0, none⟩ = some (.int .u8 ((rd_T61 l0 x9_1).f0)) := (blk_cell BK130.out 0).trans rfl; have hcz119_1 : w118.cell? ⟨gb130, 1, none⟩ = some (.string ((rd_T61 l0 x9_1).f1)) := (blk_cell BK130.out 1).trans rfl; have hcz119_2 : w118.cell? ⟨gb130, 2, none⟩ = some (.int .i64 ((rd_T61 l0 x9_1).f2)) := (blk_cell BK130.out 2).trans rfl; have hcz119_3 : w118.cell? ⟨gb130, 3, none⟩ = some (.int .i64 ((rd_T61 l0 x9_1).f3)) := (blk_cell BK130.out 3).trans rfl; have hfz119_0 := blk_frozen BK130.out 0; have hfz119_1 := blk_frozen BK130.out 1; have hfz119_2 := blk_frozen BK130.out 2; have hfz119_3 := blk_frozen BK130.out 3))
                       repeat (go_quiet (fail); try go_wp2_with (first | ((with_reducible refine gate_store (t := 23) (p := 116) rfl ?_); (try (rw [drewN_self w116]; generalize hq_ : World.drewN w116 _ = w116; have n0_ := Aside0.mk (Kd.R_at hq_ HO_7.out); have n1_ := Aside0.mk (Kd.R_at hq_ HO_8.out); have n2_ := Aside0.mk (Kd.S_at hq_ HO144.out); have n3_ := Aside0.mk (Kd.R_at hq_ HL161_3.out); have n4_ := Aside0.mk (blk_at hq_ BK130.out); have n5_ := Aside0.mk (blk_at hq_ BK141.out); have n6_ := Aside0.mk (below_at hq_ HB.out); clear hq_ HO_7 HO_8 HO144 HL161_3 BK130 BK141 HB; have HO_7 := n0_; have HO_8 := n1_; have HO144 := n2_; have HL161_3 := n3_; have BK130 := n4_; have BK141 := n5_; have HB := n6_; clear n0_ n1_ n2_ n3_ n4_ n5_ n6_; (try (have n_ := Aside0.mk (Kd.S_mono (ok' := (fun k_ => some k_ ≠ (u7 : Value).ownBlock ∧ some k_ ≠ (.slice (some ad157) x8_1.length co111 : Value).ownBlock ∧ some k_ ≠ (v166 : Value).ownBlock ∧ k_ ≠ gb141)) HO144.out (fun k_ hk => ⟨hk.1.1, ⟨hk.1.2.1, ⟨hk.2, hk.1.2.2⟩⟩⟩)); clear HO144; have HO144 := n_; clear n_)); (try (have HX117 := Aside0.mk (show Kd.S k33 33 w116 w.heap.size (fun k_ => ((fun k_ => some k_ ≠ (u7 : Value).ownBlock ∧ some k_ ≠ (.slice (some ad157) x8_1.length co111 : Value).ownBlock ∧ k_ ≠ gb141)) k_ ∧ ¬ ((fun k_ => some k_ = (v166 : Value).ownBlock)) k_) (.slice (some ⟨go86, 0, none⟩) y142.length co114) y142 from (by (with_reducible repeat (first | apply Kd.S_alloc | apply Kd.S_drewN | apply Kd.S_drew)); exact Kd.S_mono HO144.out (fun k_ hk => ⟨⟨hk.1, ⟨hk.2.1, hk.2.2.2⟩⟩, fun e_ => hk.2.2.1 e_⟩))))); (try (obtain ⟨oki117, ce117, hcl117, hM117, hcc117, hfr117, hoki117, hH117⟩ := Kd.S_elem HX117.out z33 ((rd x8_1 (ji79)) : Int) (of_decide_eq_true (by first | (with_reducible assumption) | assumption)) (by have h_ : ((rd x8_1 (ji79)) : Int) < ((y142.length : Int) : Int) := of_decide_eq_true (by first | (with_reducible assumption) | assumption); first | exact h_ | (have e_ := (Kd.S_reads' HO144.out).1; omega) | simpa using h_))); (try (obtain ⟨ve117_3, rfl, ge117_3⟩ := k33_openM hM117)); (try (have HP117 := Kd.S_seg hH117 (of_decide_eq_true (by first | (with_reducible assumption) | assumption)) (by have h_ : ((rd x8_1 (ji79)) : Int) < ((y142.length : Int) : Int) := of_decide_eq_true (by first | (with_reducible assumption) | assumption); first | exact h_ | (have e_ := (Kd.S_reads' HO144.out).1; omega) | simpa using h_) (seg := [v166]) (j := 3) (show 4 ≤ 5 from by decide) (x' := (⟨(rd_T33 y142 (rd x8_1 (ji79))).f0, (rd_T33 y142 (rd x8_1 (ji79))).f1, (rd_T33 y142 (rd x8_1 (ji79))).f2, y165, (rd_T33 y142 (rd x8_1 (ji79))).f4⟩ : S33)) (k33_mkM _ _ _ (⟨(rd_T33 y142 (rd x8_1 (ji79))).f0, (rd_T33 y142 (rd x8_1 (ji79))).f1, (rd_T33 y142 (rd x8_1 (ji79))).f2, y165, (rd_T33 y142 (rd x8_1 (ji79))).f4⟩ : S33) (Kd.R_mono (Kd.R_tight rfl (Kd.R_mono (ok' := fun k_ => ((fun k_ => some k_ ≠ (u7 : Value).ownBlock ∧ some k_ ≠ (.slice (some ad157) x8_1.length co111 : Value).ownBlock ∧ k_ ≠ gb141)) k_ ∧ k_ ≠ go86) (Kd.R_types (Kd.R_apart' (HO167.out) (Kd.S_typed HO144.out) (by decide)) BK141.out (by decide)) (fun k_ hk => ⟨⟨hk.1.1.1, ⟨hk.1.1.2, hk.2⟩⟩, fun e_ => (hk.1.2) (by rw [e_]; rfl)⟩))) (fun _ h_ => Or.inr (h_)))) (fun _ hk => hk) (fun k_ hk_ => ((Kd.R_mono (ok' := fun k_ => ((fun k_ => some k_ ≠ (u7 : Value).ownBlock ∧ some k_ ≠ (.slice (some ad157) x8_1.length co111 : Value).ownBlock ∧ k_ ≠ gb141)) k_ ∧ k_ ≠ go86) (Kd.R_types (Kd.R_apart' (HO167.out) (Kd.S_typed HO144.out) (by decide)) BK141.out (by decide)) (fun k_ hk => ⟨⟨hk.1.1.1, ⟨hk.1.1.2, hk.2⟩⟩, fun e_ => (hk.1.2) (by rw [e_]; rfl)⟩))).1 k_ hk_.symm))); (try (have hx117_3 := hcc117 3 _ rfl)); (try (try simp only [show (k33).sz = 5 from rfl, Nat.mul_one, Nat.add_zero] at hx117_3)); (try (have hf117_3 := hfr117 3)); (try (try simp only [show (k33).sz = 5 from rfl, Nat.mul_one, Nat.add_zero] at hf117_3)); (try (clear hcl117 hcc117 hfr117 hM117 hoki117 hH117)))); refine store_event (t := 23) (p := 116) (v := ?vo_w118) (w1 := (w116.setCell ⟨go86, ((rd x8_1 (ji79)) : Int).toNat * 5 + 3, none⟩ (v166))) ?hg ?ho ?hn ?hr ?_; (case ho => rfl); (case hg => rfl); (case hn => rfl); (case hr => first | (go_simp; done) | (go_simp; rfl) | (obtain ⟨A_, c_, hA_⟩ := Kd.R_slice HO167.out; subst hA_; first | (go_simp; done) | (go_simp; rfl))); intro w118 hw; have hg : w116.grownBy w118 (some go86) := (by rw [hw]; exact HP117.2); have hp_ : Kd.S k33 33 w118 w.heap.size (fun k_ => some k_ ≠ (u7 : Value).ownBlock ∧ some k_ ≠ (.slice (some ad157) x8_1.length co111 : Value).ownBlock ∧ k_ ≠ gb141) (.slice (some ⟨go86, 0, none⟩) y142.length co114) y168 := (by rw [hw, Ny168.out]; exact HP117.1); clear HP117; have n0_ := Aside0.mk (Kd.R_over' (v := (.slice (some ⟨go86, 0, none⟩) y142.length co114)) (by (with_reducible repeat (first | apply Kd.R_alloc | apply Kd.R_drewN | apply Kd.R_drew)); exact HO_7.out) (Kd.S_typed HO144.out) (by decide) hg); have n1_ := Aside0.mk (Kd.R_over' (v := (.slice (some ⟨go86, 0, none⟩) y142.length co114)) (by (with_reducible repeat (first | apply Kd.R_alloc | apply Kd.R_drewN | apply Kd.R_drew)); exact HO_8.out) (Kd.S_typed HO144.out) (by decide) hg); have n2_ := Aside0.mk (blk_grown (g := gb130) (o := .cells #[.int .u8 ((rd_T61 l0 x9_1).f0), .string ((rd_T61 l0 x9_1).f1), .int .i64 ((rd_T61 l0 x9_1).f2), .int .i64 ((rd_T61 l0 x9_1).f3)] 61 (0, 0)) (by (with_reducible repeat (first | refine blk_drewN ?_ _ | refine blk_drew ?_ | refine blk_alloc ?_ _)); exact BK130.out) hg (Kd.S_ne HO144.out BK130.out (by decide))); have n3_ := Aside0.mk (blk_grown (g := gb141) (o := .cells #[.int .u8 ((rd_T61 l0 x9_1).f0), .string x142001_40, .int .i64 x142002_40, .slice none 0 0, .int .i64 ((rd_T61 l0 x9_1).f3)] 33 (0, 0)) (by (with_reducible repeat (first | refine blk_drewN ?_ _ | refine blk_drew ?_ | refine blk_alloc ?_ _)); exact BK141.out) hg (Kd.S_away HO144.out (fun _ hk => hk.2.2.2))); have n4_ := Aside0.mk (hp_); have n5_ := Aside0.mk (Kd.R_after (v := (.slice (some ⟨go86, 0, none⟩) y142.length co114)) (v1 := (.slice (some ⟨go86, 0, none⟩) y142.length co114)) (ok := (fun k_ => some k_ ≠ (u7 : Value).ownBlock ∧ some k_ ≠ (.slice (some ad157) x8_1.length co111 : Value).ownBlock ∧ some k_ ≠ (v166 : Value).ownBlock ∧ k_ ≠ gb141)) (by (with_reducible repeat (first | apply Kd.R_alloc | apply Kd.R_drewN | apply Kd.R_drew)); exact Kd.R_mono HL161_3.out (fun _ hk => ⟨⟨hk.1.1, ⟨hk.1.2.1, ⟨hk.2, hk.1.2.2.2⟩⟩⟩, hk.1.2.2.1⟩)) hg (.inl rfl)); have n6_ := Aside0.mk ((by rw [hw]; exact below_set (HB.out) GB86.out : Below w.heap.size w w118)); clear HO_7; clear HO_8; clear BK130; clear BK141; clear HO144; clear HL161_3; clear HB; clear HO167; have HO_7 := n0_; have HO_8 := n1_; have BK130 := n2_; have BK141 := n3_; have HO144 := n4_; have HL161_3 := n5_; have HB := n6_; clear n0_ n1_ n2_ n3_ n4_ n5_ n6_; clear hg hw hp_; have hcz119_0 : w118.cell? ⟨gb130, 0, none⟩ = some (.int .u8 ((rd_T61 l0 x9_1).f0)) := (blk_cell BK130.out 0).trans rfl; have hcz119_1 : w118.cell? ⟨gb130, 1, none⟩ = some (.string ((rd_T61 l0 x9_1).f1)) := (blk_cell BK130.out 1).trans rfl; have hcz119_2 : w118.cell? ⟨gb130, 2, none⟩ = some (.int .i64 ((rd_T61 l0 x9_1).f2)) := (blk_cell BK130.out 2).trans rfl; have hcz119_3 : w118.cell? ⟨gb130, 3, none⟩ = some (.int .i64 ((rd_T61 l0 x9_1).f3)) := (blk_cell BK130.out 3).trans rfl; have hfz119_0 := blk_frozen BK130.out 0; have hfz119_1 := blk_frozen BK130.out 1; have hfz119_2 := blk_frozen BK130.out 2; have hfz119_3 := blk_frozen BK130.out 3)))
                       go_roundg kj40
                       case measure => have := HK1.out; have := HJ19.out; have := HJ28.out; have := HJ40.out; omega
                       case rel => exact ⟨(y168), (x7_1), (x8_1), (wrap64 (x9_1 + 1)), (by first | rfl | (simp; done) | (simp [*]; done)), H', ⟨by have := HK1.out; have := HJ19.out; have := HJ28.out; have := HJ40.out; omega⟩, ⟨by (with_reducible repeat (first | apply Kd.S_alloc | apply Kd.S_drewN | apply Kd.S_drew)); exact Kd.S_mono HO144.out (fun _ hk => ⟨hk.1, hk.2.1⟩)⟩, ⟨by (with_reducible repeat (first | apply Kd.R_alloc | apply Kd.R_drewN | apply Kd.R_drew)); exact Kd.R_mono HO_7.out (fun _ hk => hk.1)⟩, ⟨by (with_reducible repeat (first | apply Kd.R_alloc | apply Kd.R_drewN | apply Kd.R_drew)); exact Kd.R_mono HO_8.out (fun _ hk => hk.1)⟩, ⟨by repeat (first | (with_reducible first | exact HB.out | apply below_alloc | apply pw_below_drewN | apply below_drew1 | refine below_set ?_ GE130.out | refine below_set ?_ GE141.out) | exact HB.out)⟩⟩
                     ·rw [if_neg c85] at H
                      exact absurd H (by simp)
                    ·rw [if_neg c84] at H
                     exact absurd H (by simp)
                   ·rw [if_neg c83] at H
                    exact absurd H (by simp)
                  ·rw [if_neg c82] at H
                   exact absurd H (by simp)
                 ·rw [if_neg c81] at H
                  exact absurd H (by simp)
                ·rw [if_neg c80] at H
                 exact absurd H (by simp)
              ·rw [if_neg c55] at H
               exact absurd H (by simp)
    ·rw [if_neg c3] at H
     exact absurd H (by simp)
   ·rw [if_neg c2] at H
    have c2b0 : decide (x9_1 < (l0.length : Int)) = false := decide_eq_false c2
    clear c2
    by_cases c120 : (x8_1.length : Int) > 0
    ·rw [if_pos c120] at H
     have c120b0 : decide (0 < (x8_1.length : Int)) = true := decide_eq_true c120
     have c120b1 : decide (0 < x8_1.length) = true := decide_eq_true (by omega)
     clear c120
     obtain ⟨ji121, hji121⟩ : ∃ j_ : Int, (wrap64 ((x8_1.length : Int) - 1)) = j_ := ⟨_, rfl⟩
     replace H : (if 0 ≤ (ji121) then (if (ji121) < (x8_1.length : Int) then (if 0 ≤ (rd x8_1 (ji121)) then (if (rd x8_1 (ji121)) < (x6_1.length : Int) then (some (([] : List (S33)), ([] : List Int), (rd_T33 x6_1 (rd x8_1 (ji121))).f4, 8)) else (none)) else (none)) else (none)) else (none)) = some (r1, r2, r3, r4) := by first | (rw [hji121] at H; exact H) | (simp only [hji121] at H ⊢; exact H)
     have hji121w : (IntKind.i64.wrap ((x8_1.length : Int) - 1)) = ji121 := (i64_w _).trans hji121
     by_cases c122 : 0 ≤ (ji121)
     ·rw [if_pos c122] at H
      have c122b0 : decide (0 ≤ (ji121)) = true := decide_eq_true c122
      clear c122
      by_cases c123 : (ji121) < (x8_1.length : Int)
      ·rw [if_pos c123] at H
       have c123b0 : decide ((ji121) < (x8_1.length : Int)) = true := decide_eq_true c123
       clear c123
       by_cases c124 : 0 ≤ (rd x8_1 (ji121))
       ·rw [if_pos c124] at H
        have c124b0 : decide (0 ≤ (rd x8_1 (ji121))) = true := decide_eq_true c124
        clear c124
        by_cases c125 : (rd x8_1 (ji121)) < (x6_1.length : Int)
        ·rw [if_pos c125] at H
         have c125b0 : decide ((rd x8_1 (ji121)) < (x6_1.length : Int)) = true := decide_eq_true c125
         clear c125
         simp only [Option.some.injEq, Prod.mk.injEq] at H
         obtain ⟨rfl, rfl, rfl, rfl⟩ := H
         obtain ⟨Ao126, co126, eo126⟩ := Kd.R_slice HO_8.out
         subst eo126
         have p127 : 0 ≤ ((ji121) : Int) := of_decide_eq_true (by first | (with_reducible assumption) | assumption)
         have q127 : (ji121) < (x8_1.length : Int) := of_decide_eq_true (by first | (with_reducible assumption) | assumption)
         obtain ⟨ad127, e127, hx127_0⟩ := Kd.at_int (Kd.R_reads' HO_8.out).2.2 (ji121) p127 q127
         cases e127
         replace p127 := eq_true p127
         replace q127 := eq_true q127
         obtain ⟨Ao127, co127, eo127⟩ := Kd.S_slice HO_6.out
         subst eo127
         have p128 : 0 ≤ ((rd x8_1 (ji121)) : Int) := of_decide_eq_true (by first | (with_reducible assumption) | assumption)
         have q128 : (rd x8_1 (ji121)) < (x6_1.length : Int) := of_decide_eq_true (by first | (with_reducible assumption) | assumption)
         obtain ⟨ad128, A128_3, c128_3, e128, hx128_0, hx128_1, hx128_2, hx128_3, hx128_4, hl128_3, hi128_3⟩ := at_T33 (Kd.S_reads' HO_6.out).2.2 (rd x8_1 (ji121)) p128 q128
         cases e128
         obtain ⟨ce128, hce128, hMe128, hcc128⟩ := Kd.S_get HO_6.out z33 (rd x8_1 (ji121)) p128 (by first | exact q128 | exact of_decide_eq_true (by first | (with_reducible assumption) | assumption) | (have e_ := (Kd.S_reads' HO_6.out).1; omega))
         obtain ⟨ve128_3, rfl, ge128_3⟩ := k33_openM hMe128
         have hv128_3 := hcc128 3 _ rfl
         rw [add_field _ _ 3 (by omega)] at hv128_3
         replace hv128_3 := Option.some.inj (hv128_3.symm.trans hx128_3)
         rw [hv128_3] at ge128_3
         have HL128_3 := Aside0.mk (show Kd.R (Kd.int .i64) 3 _ _ _ _ ((rd_T33 x6_1 (rd x8_1 (ji121))).f3) from ge128_3)
         clear hv128_3 ge128_3
         clear hcc128 hce128
         have HR128_3 := Aside0.mk hi128_3
         have HC128_3 := Aside0.mk hl128_3
         clear hi128_3 hl128_3
         replace p128 := eq_true p128
         replace q128 := eq_true q128
         go_wp2
         repeat (go_quiet (fail); try go_wp2)
         refine bodyPost_ret (results_list (rs := [.tmp 2, .tmp 3, .tmp 4, .tmp 5]) rfl (by simp) (.tmp (.tmp (.tmp (.tmp .nil))))) rfl ?_
         exact ⟨_, _, by first | rfl | (simp [errW_none, errW_some] <;> rfl) | (simp only [← hji121]; first | rfl | (simp [errW_none, errW_some] <;> rfl)) | (simp [*, errW_none, errW_some] <;> rfl), by first | exact Kd.S_nil _ _ _ _ _ | exact Kd.N_nil _ _ _ _ _ | exact Kd.V_nil _ _ _ _ _ | exact Kd.Q_nil _ _ _ _ _ | exact Kd.R_nil _ _ _ _ _, by first | exact Kd.R_nil _ _ _ _ _ | exact Kd.N_nil _ _ _ _ _ | exact Kd.V_nil _ _ _ _ _ | exact Kd.Q_nil _ _ _ _ _ | exact Kd.S_nil _ _ _ _ _, by repeat (first | (with_reducible first | exact HB.out | apply below_alloc | apply pw_below_drewN | apply below_drew1) | exact HB.out | exact Below.refl _ _)⟩
        ·rw [if_neg c125] at H
         exact absurd H (by simp)
       ·rw [if_neg c124] at H
        exact absurd H (by simp)
      ·rw [if_neg c123] at H
       exact absurd H (by simp)
     ·rw [if_neg c122] at H
      exact absurd H (by simp)
    ·rw [if_neg c120] at H
     have c120b0 : decide (0 < (x8_1.length : Int)) = false := decide_eq_false c120
     have c120b1 : decide (0 < x8_1.length) = false := decide_eq_false (by omega)
     clear c120
     simp only [Option.some.injEq, Prod.mk.injEq] at H
     obtain ⟨rfl, rfl, rfl, rfl⟩ := H
     obtain ⟨Ao128, co128, eo128⟩ := Kd.R_slice HO_8.out
     subst eo128
     go_wp2
     repeat (go_quiet (fail); try go_wp2)
     refine bodyPost_ret (results_list (rs := [.tmp 2, .tmp 3, .tmp 4, .tmp 5]) rfl (by simp) (.tmp (.tmp (.tmp (.tmp .nil))))) rfl ?_
     exact ⟨_, _, by first | rfl | (simp [errW_none, errW_some] <;> rfl) | (simp [*, errW_none, errW_some] <;> rfl), by (with_reducible repeat (first | apply Kd.S_alloc | apply Kd.S_drewN | apply Kd.S_drew)); exact Kd.S_mono HO_6.out (fun _ hk => hk.1), by (with_reducible repeat (first | apply Kd.R_alloc | apply Kd.R_drewN | apply Kd.R_drew)); exact Kd.R_mono HO_7.out (fun _ hk => trivial), by repeat (first | (with_reducible first | exact HB.out | apply below_alloc | apply pw_below_drewN | apply below_drew1) | exact HB.out | exact Below.refl _ _)⟩

end Go.Proofs.Ytldjbgonlbmeaaa.PA
