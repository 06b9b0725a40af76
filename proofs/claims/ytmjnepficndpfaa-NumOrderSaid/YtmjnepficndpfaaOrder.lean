/- The walk of the law on orders. -/
import Derived.Test.YtmjnepficndpfaaPDx7
import Derived.Test.YtmjnepficndpfaaDoesLib
import Derived.Test.YtmjnepficndpfaaOpen
import Derived.Test.YtmjnepficndpfaaPureNumDoes
import Derived.Lib.Hide
namespace Go.Proofs.Ytmjnepficndpfaa.Order
open Go.RowKit Go.Proofs.Ytmjnepficndpfaa.Open Go.Proofs.Ytmjnepficndpfaa.Pure Go.Proofs.Ytmjnepficndpfaa.PD Go.Proofs.YtmjnepficndpfaaW.PrintWords Go.Proofs.YtmjnepficndpfaaW.PrintLast Go.Proofs.YtmjnepficndpfaaW.PrintMore

theorem C_two (w : World) (B : Nat) (x y : Int) (h0 : w.cell? ⟨B, 0, none⟩ = some (.int .i64 x)) (h1 : w.cell? ⟨B, 1, none⟩ = some (.int .i64 y)) : Kd.C (Kd.int .i64) w (some ⟨B, 0, none⟩) 2 [x, y] := by
  refine ⟨rfl, by decide, fun _ => ⟨_, rfl, fun j p hp => ?_⟩⟩
  have hs : (Kd.int .i64).sz = 1 := rfl
  match j, hp with
  | 0, hp =>
    cases hp
    refine ⟨[.int .i64 x], rfl, rfl, fun i u hu => ?_⟩
    cases i with
    | zero => cases hu; simpa [Addr.add] using h0
    | succ i => simp at hu
  | 1, hp =>
    cases hp
    refine ⟨[.int .i64 y], rfl, rfl, fun i u hu => ?_⟩
    cases i with
    | zero => cases hu; simpa [Addr.add, hs] using h1
    | succ i => simp at hu

theorem do2 (k : Nat) (o x y r e : Int) (w : World) (B : Nat) (h0 : w.cell? ⟨B, 0, none⟩ = some (.int .i64 x)) (h1 : w.cell? ⟨B, 1, none⟩ = some (.int .i64 y)) (h : num_Do.f k o [x, y] = some (r, e)) :
    Calls Try.prog 17 #[.int .u8 o, .slice (some ⟨B, 0, none⟩) 2 2] w fun e_ w' => e_ = .returned (.tuple #[.int .i64 r, .int .i64 e]) ∧ Below w.heap.size w w' :=
  num_Do.calls k o (some ⟨B, 0, none⟩) 2 [x, y] r e w (C_two w B x y h0 h1) (Nat.le_refl 2) h

set_option maxHeartbeats 4000000 in
set_option maxRecDepth 100000 in
theorem walk_plain (k : Nat) (o a b c first ab ba bc x y z e1 e2 e3 e4 e5 e6 : Int) (w : World) (hR : num_Reduces.f k o = some (first, true)) (h16 : o ≠ 16) (h17 : o ≠ 17)
    (h1 : num_Do.f k o [a, b] = some (ab, e1)) (h2 : num_Do.f k o [b, a] = some (ba, e2)) (h3 : num_Do.f k o [b, c] = some (bc, e3)) (h4 : num_Do.f k o [ab, c] = some (x, e4)) (h5 : num_Do.f k o [a, bc] = some (y, e5)) (h6 : num_Do.f k o [first, a] = some (z, e6))
    (hl : reticulelaw01_live.f k = some true) (g1 : (ab == ba) = true) (g2 : (x == y) = true) (g3 : (z == a) = true) :
    Calls Try.prog 5 #[.int .u8 o, .agg #[.int .i64 a, .int .i64 b, .int .i64 c]] w fun e w' => e = .returned (.bool true) ∧ Below w.heap.size w w' := by
  have t1 : (o == 16) = false := beq_eq_false_iff_ne.2 h16
  have t2 : (o == 17) = false := beq_eq_false_iff_ne.2 h17
  have HR := Lib.hid hR; clear hR
  have H1 := Lib.hid h1; clear h1
  have H2 := Lib.hid h2; clear h2
  have H3 := Lib.hid h3; clear h3
  have H4 := Lib.hid h4; clear h4
  have H5 := Lib.hid h5; clear h5
  have H6 := Lib.hid h6; clear h6
  have HL := Lib.hid hl; clear hl
  clear h16 h17
  go_enter Try.func5, Try.ntmps5
  go_wp2_with fail
  refine (num_Reduces.calls k o first true _ HR.out).mono ?_
  rintro e w' ⟨rfl, ⟨n, rfl⟩⟩
  go_wp2_with fail
  go_quiet (fail)
  have HB := Lib.hid (Below.refl w.heap.size w)
  go_wp2_with fail
  refine (do2 k o a b ab e1 _ _ (by go_simp) (by go_simp) H1.out).mono ?_
  rintro e w' ⟨rfl, hb⟩
  have n1 := Lib.hid (below_step (by repeat (first | (with_reducible first | exact HB.out | apply below_alloc | apply pw_below_drewN | apply below_drew1) | exact HB.out | exact Below.refl _ _)) hb)
  clear hb HB
  have HB := n1
  clear n1
  go_wp2_with fail
  refine (do2 k o b a ba e2 _ _ (by go_simp) (by go_simp) H2.out).mono ?_
  rintro e w' ⟨rfl, hb⟩
  have n1 := Lib.hid (below_step (by repeat (first | (with_reducible first | exact HB.out | apply below_alloc | apply pw_below_drewN | apply below_drew1) | exact HB.out | exact Below.refl _ _)) hb)
  clear hb HB
  have HB := n1
  clear n1
  go_wp2_with fail
  refine (do2 k o b c bc e3 _ _ (by go_simp) (by go_simp) H3.out).mono ?_
  rintro e w' ⟨rfl, hb⟩
  have n1 := Lib.hid (below_step (by repeat (first | (with_reducible first | exact HB.out | apply below_alloc | apply pw_below_drewN | apply below_drew1) | exact HB.out | exact Below.refl _ _)) hb)
  clear hb HB
  have HB := n1
  clear n1
  go_wp2_with fail
  refine (do2 k o ab c x e4 _ _ (by go_simp) (by go_simp) H4.out).mono ?_
  rintro e w' ⟨rfl, hb⟩
  have n1 := Lib.hid (below_step (by repeat (first | (with_reducible first | exact HB.out | apply below_alloc | apply pw_below_drewN | apply below_drew1) | exact HB.out | exact Below.refl _ _)) hb)
  clear hb HB
  have HB := n1
  clear n1
  go_wp2_with fail
  refine (do2 k o a bc y e5 _ _ (by go_simp) (by go_simp) H5.out).mono ?_
  rintro e w' ⟨rfl, hb⟩
  have n1 := Lib.hid (below_step (by repeat (first | (with_reducible first | exact HB.out | apply below_alloc | apply pw_below_drewN | apply below_drew1) | exact HB.out | exact Below.refl _ _)) hb)
  clear hb HB
  have HB := n1
  clear n1
  go_wp2_with fail
  refine (do2 k o first a z e6 _ _ (by go_simp) (by go_simp) H6.out).mono ?_
  rintro e w' ⟨rfl, hb⟩
  have n1 := Lib.hid (below_step (by repeat (first | (with_reducible first | exact HB.out | apply below_alloc | apply pw_below_drewN | apply below_drew1) | exact HB.out | exact Below.refl _ _)) hb)
  clear hb HB
  have HB := n1
  clear n1
  go_wp2_with fail
  refine (reticulelaw01_live.calls k true _ HL.out).mono ?_
  rintro e w' ⟨rfl, hb⟩
  have n1 := Lib.hid (below_step (by repeat (first | (with_reducible first | exact HB.out | apply below_alloc | apply pw_below_drewN | apply below_drew1) | exact HB.out | exact Below.refl _ _)) hb)
  clear hb HB
  have HB := n1
  clear n1
  go_wp2_with fail
  go_ret
  exact ⟨rfl, HB.out⟩
set_option maxHeartbeats 4000000 in
set_option maxRecDepth 100000 in
theorem walk_and (k : Nat) (o a b c first ab ba bc x y z e1 e2 e3 e4 e5 e6 : Int) (w : World) (hR : num_Reduces.f k o = some (first, true)) (a0 b0 c0 : Int) (ha : Go.bits .and .i64 a0 1 = a) (hb : Go.bits .and .i64 b0 1 = b) (hc : Go.bits .and .i64 c0 1 = c) (h16 : o = 16)
    (h1 : num_Do.f k o [a, b] = some (ab, e1)) (h2 : num_Do.f k o [b, a] = some (ba, e2)) (h3 : num_Do.f k o [b, c] = some (bc, e3)) (h4 : num_Do.f k o [ab, c] = some (x, e4)) (h5 : num_Do.f k o [a, bc] = some (y, e5)) (h6 : num_Do.f k o [first, a] = some (z, e6))
    (hl : reticulelaw01_live.f k = some true) (g1 : (ab == ba) = true) (g2 : (x == y) = true) (g3 : (z == a) = true) :
    Calls Try.prog 5 #[.int .u8 o, .agg #[.int .i64 a0, .int .i64 b0, .int .i64 c0]] w fun e w' => e = .returned (.bool true) ∧ Below w.heap.size w w' := by
  have t1 : (o == 16) = true := beq_iff_eq.2 h16
  have t2 : (o == 17) = false := beq_eq_false_iff_ne.2 (by omega)
  have HR := Lib.hid hR; clear hR
  have H1 := Lib.hid h1; clear h1
  have H2 := Lib.hid h2; clear h2
  have H3 := Lib.hid h3; clear h3
  have H4 := Lib.hid h4; clear h4
  have H5 := Lib.hid h5; clear h5
  have H6 := Lib.hid h6; clear h6
  have HL := Lib.hid hl; clear hl
  clear h16
  go_enter Try.func5, Try.ntmps5
  go_wp2_with fail
  refine (num_Reduces.calls k o first true _ HR.out).mono ?_
  rintro e w' ⟨rfl, ⟨n, rfl⟩⟩
  go_wp2_with fail
  go_quiet (fail)
  have HB := Lib.hid (Below.refl w.heap.size w)
  go_wp2_with fail
  refine (do2 k o a b ab e1 _ _ (by go_simp) (by go_simp) H1.out).mono ?_
  rintro e w' ⟨rfl, hb⟩
  have n1 := Lib.hid (below_step (by repeat (first | (with_reducible first | exact HB.out | apply below_alloc | apply pw_below_drewN | apply below_drew1) | exact HB.out | exact Below.refl _ _)) hb)
  clear hb HB
  have HB := n1
  clear n1
  go_wp2_with fail
  refine (do2 k o b a ba e2 _ _ (by go_simp) (by go_simp) H2.out).mono ?_
  rintro e w' ⟨rfl, hb⟩
  have n1 := Lib.hid (below_step (by repeat (first | (with_reducible first | exact HB.out | apply below_alloc | apply pw_below_drewN | apply below_drew1) | exact HB.out | exact Below.refl _ _)) hb)
  clear hb HB
  have HB := n1
  clear n1
  go_wp2_with fail
  refine (do2 k o b c bc e3 _ _ (by go_simp) (by go_simp) H3.out).mono ?_
  rintro e w' ⟨rfl, hb⟩
  have n1 := Lib.hid (below_step (by repeat (first | (with_reducible first | exact HB.out | apply below_alloc | apply pw_below_drewN | apply below_drew1) | exact HB.out | exact Below.refl _ _)) hb)
  clear hb HB
  have HB := n1
  clear n1
  go_wp2_with fail
  refine (do2 k o ab c x e4 _ _ (by go_simp) (by go_simp) H4.out).mono ?_
  rintro e w' ⟨rfl, hb⟩
  have n1 := Lib.hid (below_step (by repeat (first | (with_reducible first | exact HB.out | apply below_alloc | apply pw_below_drewN | apply below_drew1) | exact HB.out | exact Below.refl _ _)) hb)
  clear hb HB
  have HB := n1
  clear n1
  go_wp2_with fail
  refine (do2 k o a bc y e5 _ _ (by go_simp) (by go_simp) H5.out).mono ?_
  rintro e w' ⟨rfl, hb⟩
  have n1 := Lib.hid (below_step (by repeat (first | (with_reducible first | exact HB.out | apply below_alloc | apply pw_below_drewN | apply below_drew1) | exact HB.out | exact Below.refl _ _)) hb)
  clear hb HB
  have HB := n1
  clear n1
  go_wp2_with fail
  refine (do2 k o first a z e6 _ _ (by go_simp) (by go_simp) H6.out).mono ?_
  rintro e w' ⟨rfl, hb⟩
  have n1 := Lib.hid (below_step (by repeat (first | (with_reducible first | exact HB.out | apply below_alloc | apply pw_below_drewN | apply below_drew1) | exact HB.out | exact Below.refl _ _)) hb)
  clear hb HB
  have HB := n1
  clear n1
  go_wp2_with fail
  refine (reticulelaw01_live.calls k true _ HL.out).mono ?_
  rintro e w' ⟨rfl, hb⟩
  have n1 := Lib.hid (below_step (by repeat (first | (with_reducible first | exact HB.out | apply below_alloc | apply pw_below_drewN | apply below_drew1) | exact HB.out | exact Below.refl _ _)) hb)
  clear hb HB
  have HB := n1
  clear n1
  go_wp2_with fail
  go_ret
  exact ⟨rfl, HB.out⟩
set_option maxHeartbeats 4000000 in
set_option maxRecDepth 100000 in
theorem walk_or (k : Nat) (o a b c first ab ba bc x y z e1 e2 e3 e4 e5 e6 : Int) (w : World) (hR : num_Reduces.f k o = some (first, true)) (a0 b0 c0 : Int) (ha : Go.bits .and .i64 a0 1 = a) (hb : Go.bits .and .i64 b0 1 = b) (hc : Go.bits .and .i64 c0 1 = c) (h16 : o = 17)
    (h1 : num_Do.f k o [a, b] = some (ab, e1)) (h2 : num_Do.f k o [b, a] = some (ba, e2)) (h3 : num_Do.f k o [b, c] = some (bc, e3)) (h4 : num_Do.f k o [ab, c] = some (x, e4)) (h5 : num_Do.f k o [a, bc] = some (y, e5)) (h6 : num_Do.f k o [first, a] = some (z, e6))
    (hl : reticulelaw01_live.f k = some true) (g1 : (ab == ba) = true) (g2 : (x == y) = true) (g3 : (z == a) = true) :
    Calls Try.prog 5 #[.int .u8 o, .agg #[.int .i64 a0, .int .i64 b0, .int .i64 c0]] w fun e w' => e = .returned (.bool true) ∧ Below w.heap.size w w' := by
  have t1 : (o == 16) = false := beq_eq_false_iff_ne.2 (by omega)
  have t2 : (o == 17) = true := beq_iff_eq.2 h16
  have HR := Lib.hid hR; clear hR
  have H1 := Lib.hid h1; clear h1
  have H2 := Lib.hid h2; clear h2
  have H3 := Lib.hid h3; clear h3
  have H4 := Lib.hid h4; clear h4
  have H5 := Lib.hid h5; clear h5
  have H6 := Lib.hid h6; clear h6
  have HL := Lib.hid hl; clear hl
  clear h16
  go_enter Try.func5, Try.ntmps5
  go_wp2_with fail
  refine (num_Reduces.calls k o first true _ HR.out).mono ?_
  rintro e w' ⟨rfl, ⟨n, rfl⟩⟩
  go_wp2_with fail
  go_quiet (fail)
  have HB := Lib.hid (Below.refl w.heap.size w)
  go_wp2_with fail
  refine (do2 k o a b ab e1 _ _ (by go_simp) (by go_simp) H1.out).mono ?_
  rintro e w' ⟨rfl, hb⟩
  have n1 := Lib.hid (below_step (by repeat (first | (with_reducible first | exact HB.out | apply below_alloc | apply pw_below_drewN | apply below_drew1) | exact HB.out | exact Below.refl _ _)) hb)
  clear hb HB
  have HB := n1
  clear n1
  go_wp2_with fail
  refine (do2 k o b a ba e2 _ _ (by go_simp) (by go_simp) H2.out).mono ?_
  rintro e w' ⟨rfl, hb⟩
  have n1 := Lib.hid (below_step (by repeat (first | (with_reducible first | exact HB.out | apply below_alloc | apply pw_below_drewN | apply below_drew1) | exact HB.out | exact Below.refl _ _)) hb)
  clear hb HB
  have HB := n1
  clear n1
  go_wp2_with fail
  refine (do2 k o b c bc e3 _ _ (by go_simp) (by go_simp) H3.out).mono ?_
  rintro e w' ⟨rfl, hb⟩
  have n1 := Lib.hid (below_step (by repeat (first | (with_reducible first | exact HB.out | apply below_alloc | apply pw_below_drewN | apply below_drew1) | exact HB.out | exact Below.refl _ _)) hb)
  clear hb HB
  have HB := n1
  clear n1
  go_wp2_with fail
  refine (do2 k o ab c x e4 _ _ (by go_simp) (by go_simp) H4.out).mono ?_
  rintro e w' ⟨rfl, hb⟩
  have n1 := Lib.hid (below_step (by repeat (first | (with_reducible first | exact HB.out | apply below_alloc | apply pw_below_drewN | apply below_drew1) | exact HB.out | exact Below.refl _ _)) hb)
  clear hb HB
  have HB := n1
  clear n1
  go_wp2_with fail
  refine (do2 k o a bc y e5 _ _ (by go_simp) (by go_simp) H5.out).mono ?_
  rintro e w' ⟨rfl, hb⟩
  have n1 := Lib.hid (below_step (by repeat (first | (with_reducible first | exact HB.out | apply below_alloc | apply pw_below_drewN | apply below_drew1) | exact HB.out | exact Below.refl _ _)) hb)
  clear hb HB
  have HB := n1
  clear n1
  go_wp2_with fail
  refine (do2 k o first a z e6 _ _ (by go_simp) (by go_simp) H6.out).mono ?_
  rintro e w' ⟨rfl, hb⟩
  have n1 := Lib.hid (below_step (by repeat (first | (with_reducible first | exact HB.out | apply below_alloc | apply pw_below_drewN | apply below_drew1) | exact HB.out | exact Below.refl _ _)) hb)
  clear hb HB
  have HB := n1
  clear n1
  go_wp2_with fail
  refine (reticulelaw01_live.calls k true _ HL.out).mono ?_
  rintro e w' ⟨rfl, hb⟩
  have n1 := Lib.hid (below_step (by repeat (first | (with_reducible first | exact HB.out | apply below_alloc | apply pw_below_drewN | apply below_drew1) | exact HB.out | exact Below.refl _ _)) hb)
  clear hb HB
  have HB := n1
  clear n1
  go_wp2_with fail
  go_ret
  exact ⟨rfl, HB.out⟩
set_option maxHeartbeats 4000000 in
set_option maxRecDepth 100000 in
theorem walk_none (k : Nat) (o a b c first : Int) (w : World) (hR : num_Reduces.f k o = some (first, false)) (hl : reticulelaw01_live.f k = some true) :
    Calls Try.prog 5 #[.int .u8 o, .agg #[.int .i64 a, .int .i64 b, .int .i64 c]] w fun e w' => e = .returned (.bool true) ∧ Below w.heap.size w w' := by
  have HR := Lib.hid hR; clear hR
  have HL := Lib.hid hl; clear hl
  go_enter Try.func5, Try.ntmps5
  go_wp2_with fail
  refine (num_Reduces.calls k o first false _ HR.out).mono ?_
  rintro e w' ⟨rfl, ⟨n, rfl⟩⟩
  go_wp2_with fail
  have HB := Lib.hid (Below.refl w.heap.size w)
  refine (reticulelaw01_live.calls k true _ HL.out).mono ?_
  rintro e w' ⟨rfl, hb⟩
  have n1 := Lib.hid (below_step (by repeat (first | (with_reducible first | exact HB.out | apply below_alloc | apply pw_below_drewN | apply below_drew1) | exact HB.out | exact Below.refl _ _)) hb)
  clear hb HB
  have HB := n1
  clear n1
  go_wp2_with fail
  go_ret
  exact ⟨rfl, HB.out⟩

theorem opn3 : Opn Try.prog (Kd.pair (Kd.int .i64) (Kd.pair (Kd.int .i64) (Kd.int .i64))) (fun x => (Lit.int .i64 x.1).wf = true ∧ (Lit.int .i64 x.2.1).wf = true ∧ (Lit.int .i64 x.2.2).wf = true) 38 :=
  opn_array (e := 22) (m := 3) (by kernel_rfl) (by kernel_rfl) (opnF_cons (opn_int Try.underlying22 (by kernel_rfl)) (opnF_cons (opn_int Try.underlying22 (by kernel_rfl)) (opnF_one (opn_int Try.underlying22 (by kernel_rfl)))))

/-- What the operations that take in many do. -/
theorem do_add (x y : Int) : num_Do.f 100 1 [x, y] = some (wrap64 (x + y), 0) := by
  unfold num_Do.f
  rw [arity_a 99, show ar 1 = 2 from by decide]
  simp only [Option.bind_some, two, lst, fst_]
  simp [num_reckon.f]
theorem do_min (x y : Int) : num_Do.f 100 6 [x, y] = some (if y < x then y else x, 0) := by
  unfold num_Do.f
  rw [arity_a 99, show ar 6 = 2 from by decide]
  simp only [Option.bind_some, two, lst, fst_]
  simp [num_reckon.f, mn]
theorem do_max (x y : Int) : num_Do.f 100 7 [x, y] = some (if x < y then y else x, 0) := by
  unfold num_Do.f
  rw [arity_a 99, show ar 7 = 2 from by decide]
  simp only [Option.bind_some, two, lst, fst_]
  simp [num_reckon.f, mx]
theorem do_and (x y : Int) : num_Do.f 100 16 [x, y] = some (if x = 0 ∨ y = 0 then 0 else 1, 0) := by
  unfold num_Do.f
  rw [arity_a 99, show ar 16 = 2 from by decide]
  simp only [Option.bind_some, two, lst, fst_]
  simp [num_reckon.f, num_told.f, num_Truth.f]
  by_cases hx : x = 0 <;> by_cases hy : y = 0 <;> simp [hx, hy]
theorem do_or (x y : Int) : num_Do.f 100 17 [x, y] = some (if x = 0 ∧ y = 0 then 0 else 1, 0) := by
  unfold num_Do.f
  rw [arity_a 99, show ar 17 = 2 from by decide]
  simp only [Option.bind_some, two, lst, fst_]
  simp [num_reckon.f, num_told.f, num_Truth.f]
  by_cases hx : x = 0 <;> by_cases hy : y = 0 <;> simp [hx, hy]

theorem red_of (o f : Int) (h : num_Reduces.f 100 o = some (f, true)) : (o = 1 ∧ f = 0) ∨ (o = 17 ∧ f = 0) ∨ (o = 16 ∧ f = 1) ∨ (o = 6 ∧ f = 9223372036854775807) ∨ (o = 7 ∧ f = -9223372036854775808) := by
  unfold num_Reduces.f at h
  simp only [num_Reduces.j0] at h
  by_cases h1 : o = 1
  · subst h1; simp at h; omega
  · rw [if_neg h1] at h
    by_cases h2 : o = 17
    · subst h2; simp at h; omega
    · rw [beq_eq_false_iff_ne.2 h2, if_neg Bool.false_ne_true] at h
      by_cases h3 : o = 16
      · subst h3; simp at h; omega
      · rw [if_neg h3] at h
        by_cases h4 : o = 6
        · subst h4; simp at h; omega
        · rw [if_neg h4] at h
          by_cases h5 : o = 7
          · subst h5; simp at h; omega
          · rw [if_neg h5] at h; simp at h

theorem bit (n : Int) : bits .and .i64 n 1 = 0 ∨ bits .and .i64 n 1 = 1 := by rw [and_one]; omega

theorem walk (W : World) (o : Int) (_ : (Lit.int .u8 o).wf = true) (x : Int × Int × Int) (cs : List Value) (hk : (Kd.pair (Kd.int .i64) (Kd.pair (Kd.int .i64) (Kd.int .i64))).K W x cs) (hg : (Lit.int .i64 x.1).wf = true ∧ (Lit.int .i64 x.2.1).wf = true ∧ (Lit.int .i64 x.2.2).wf = true) :
    Calls Try.prog 5 #[.int .u8 o, .agg cs.toArray] W fun e w' => e = .returned (.bool true) ∧ Below W.heap.size W w' := by
  obtain ⟨a, b, c⟩ := x
  obtain ⟨_, _, rfl, e1, _, _, rfl, e2, e3⟩ := hk
  have e1' : _ = [Value.int .i64 a] := e1
  have e2' : _ = [Value.int .i64 b] := e2
  have e3' : _ = [Value.int .i64 c] := e3
  subst e1' e2' e3'
  have ha := rng hg.1
  have hb := rng hg.2.1
  have hc := rng hg.2.2
  show Calls Try.prog 5 #[.int .u8 o, .agg #[.int .i64 a, .int .i64 b, .int .i64 c]] W _
  have hl := live_from (show 30 ≤ 100 by decide)
  obtain ⟨_, r, hr⟩ := reduces_same 99 o
  obtain ⟨f, r⟩ := r
  cases r with
  | false => exact walk_none 100 o a b c f W hr hl
  | true =>
    rcases red_of o f hr with ⟨rfl, rfl⟩ | ⟨rfl, rfl⟩ | ⟨rfl, rfl⟩ | ⟨rfl, rfl⟩ | ⟨rfl, rfl⟩
    · refine walk_plain 100 1 a b c 0 _ _ _ _ _ _ _ _ _ _ _ _ W hr (by decide) (by decide) (do_add a b) (do_add b a) (do_add b c) (do_add _ c) (do_add a _) (do_add 0 a) hl ?_ ?_ ?_ <;> rw [beq_iff_eq]
      · rw [Int.add_comm]
      · rw [add_wrap, Int.add_comm a (wrap64 (b + c)), add_wrap]; congr 1; omega
      · rw [Int.zero_add, wrap_id ha.1 ha.2]
    · refine walk_or 100 17 _ _ _ 0 _ _ _ _ _ _ _ _ _ _ _ _ W hr a b c rfl rfl rfl rfl (do_or _ _) (do_or _ _) (do_or _ _) (do_or _ _) (do_or _ _) (do_or _ _) hl ?_ ?_ ?_ <;> rw [beq_iff_eq] <;>
        rcases bit a with p | p <;> rcases bit b with q | q <;> rcases bit c with s | s <;> rw [p] <;> (try rw [q]) <;> (try rw [s]) <;> decide
    · refine walk_and 100 16 _ _ _ 1 _ _ _ _ _ _ _ _ _ _ _ _ W hr a b c rfl rfl rfl rfl (do_and _ _) (do_and _ _) (do_and _ _) (do_and _ _) (do_and _ _) (do_and _ _) hl ?_ ?_ ?_ <;> rw [beq_iff_eq] <;>
        rcases bit a with p | p <;> rcases bit b with q | q <;> rcases bit c with s | s <;> rw [p] <;> (try rw [q]) <;> (try rw [s]) <;> decide
    · refine walk_plain 100 6 a b c _ _ _ _ _ _ _ _ _ _ _ _ _ W hr (by decide) (by decide) (do_min a b) (do_min b a) (do_min b c) (do_min _ c) (do_min a _) (do_min _ a) hl ?_ ?_ ?_ <;> rw [beq_iff_eq] <;> (repeat' split) <;> omega
    · refine walk_plain 100 7 a b c _ _ _ _ _ _ _ _ _ _ _ _ _ W hr (by decide) (by decide) (do_max a b) (do_max b a) (do_max b c) (do_max _ c) (do_max a _) (do_max _ a) hl ?_ ?_ ?_ <;> rw [beq_iff_eq] <;> (repeat' split) <;> omega
end Go.Proofs.Ytmjnepficndpfaa.Order
