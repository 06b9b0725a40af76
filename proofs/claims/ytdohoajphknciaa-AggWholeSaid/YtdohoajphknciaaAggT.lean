/- The walks of the reference of agg: parts, forked. -/
import Derived.Test.YtdohoajphknciaaAggS
import Derived.Test.YtdohoajphknciaaPAx5
set_option linter.unusedSimpArgs false
set_option linter.unusedVariables false
namespace Go.Proofs.Ytdohoajphknciaa.Agg
open Go.RowKit Go.Proofs.Ytdohoajphknciaa.PT Go.Proofs.Ytdohoajphknciaa.Pure Go.Proofs.Ytdohoajphknciaa.Perm Go.Proofs.YtdohoajphknciaaW.PrintWords Go.Proofs.YtdohoajphknciaaW.PrintLast Go.Proofs.YtdohoajphknciaaW.PrintMore

theorem ref_arity (k : Nat) (o : Int) (ho : takes o) : PA.reticuleref01_Arity.f (k + 1) o = some 2 := by
 rcases ho with rfl | rfl | rfl | rfl | rfl <;> rfl
theorem ref_do {o : Int} (ho : takes o) (k : Nat) (x y : Int) : PA.reticuleref01_Do.f (k + 1) o [x, y] = some (red o x y, 0) := by
 unfold PA.reticuleref01_Do.f
 rw [ref_arity k o ho]
 simp only [Option.bind_some, two]
 have e1 : wrap64 ((2 : Int) - 1) = 1 := by unfold wrap64; omega
 have e2 : wrap64 (1 : Int) = 1 := by unfold wrap64; omega
 simp only [e1, lst, fst_]
 rcases ho with rfl | rfl | rfl | rfl | rfl
 ·have : wrap64 (IntKind.u64.wrap (IntKind.u64.wrap x + IntKind.u64.wrap y)) = wrap64 (x + y) := by
   rw [IntKind.wrap_u64, IntKind.wrap_u64, IntKind.wrap_u64]
   unfold wrap64
   omega
  simp [PA.reticuleref01_Add.f, red, this]
 ·simp [red]; split <;> rfl
 ·simp [red]; split <;> rfl
 ·simp [PA.reticuleref01_truths.f, PA.reticuleref01_truth.f, PA.reticuleref01_Truth.f, red, e1, e2, lst, fst_]
  by_cases hx : x = 0 <;> by_cases hy : y = 0 <;> simp [hx, hy]
 ·simp [PA.reticuleref01_truths.f, PA.reticuleref01_truth.f, PA.reticuleref01_Truth.f, red, e1, e2, lst, fst_]
  by_cases hx : x = 0 <;> by_cases hy : y = 0 <;> simp [hx, hy]
/-- ref01.Do of an operation that takes in many, at two numbers in a block. -/
theorem rdo2 (o x y : Int) (ho : takes o) (w : World) (B : Nat) (h0 : w.cell? ⟨B, 0, none⟩ = some (.int .i64 x)) (h1 : w.cell? ⟨B, 1, none⟩ = some (.int .i64 y)) :
  Calls Try.prog 45 #[.int .u8 o, .slice (some ⟨B, 0, none⟩) 2 2] w fun e_ w' => e_ = .returned (.tuple #[.int .i64 (red o x y), .int .i64 0]) ∧ Below w.heap.size w w' :=
 (PA.reticuleref01_Do.calls 2 o (some ⟨B, 0, none⟩) 2 [x, y] (red o x y) 0 w (C_two w B x y h0 h1) (Nat.le_refl 2) (ref_do ho 1 x y)).mono (by
  rintro e w' ⟨rfl, ⟨m, rfl⟩⟩
  exact ⟨rfl, pw_below_drewN (Below.refl _ _) _⟩)

/-- A part: all that a worker took in, one after another. -/
def fold (o f : Int) (l : List Int) : Int := l.foldl (fun a x => red o a x) f

set_option maxHeartbeats 4000000 in
theorem rpart_ok (g j : Nat) (o f : Int) (ls : List (List Int)) (w : World) (h : IsR w g o ls) (hf : PA.reticuleref01_Reduces.f 3 o = some (f, true)) (hj : j < ls.length) (h4 : ls.length ≤ 4) (hl : ∀ l ∈ ls, l.length ≤ 100000) : Calls Try.prog 29 #[.pointer (some ⟨g, 0, none⟩), .int .i64 j] w fun e w' => e = .returned (.tuple #[.int .i64 (fold o f ls[j]), .int .i64 0]) ∧ Below w.heap.size w w' := by
 obtain ⟨gv, cap, e0, e1, lgv, hrow⟩ := h.view (by omega)
 have lg := h.lt
 have ho : takes o := red_of 2 o f (by rw [← ref_reduces]; exact hf)
 have hlj := hl ls[j] (List.getElem_mem hj)
 obtain ⟨A, c, er, hx⟩ := hrow j ls[j] (List.getElem?_eq_getElem hj)
 obtain ⟨l, hl0⟩ : ∃ l, l = ls[j] := ⟨_, rfl⟩
 rw [← hl0] at er hx hlj ⊢
 have HI := Lib.hid h
 have HF := Lib.hid hf
 have HX := Lib.hid hx
 clear h hf hx hrow hl hl0
 go_enter Try.func29, Try.ntmps29
 go_wp2_with fail
 refine (may_ok g o j ls _ HI.out (by omega) (by omega)).mono ?_
 rintro e w1 ⟨rfl, hb1⟩
 have HB1 := Lib.hid hb1
 have e01 := (hb1.cell (p := ⟨g, 0, none⟩) lg).trans e0
 clear hb1
 go_wp2_with fail
 refine (PA.reticuleref01_Reduces.calls 3 o f true _ HF.out).mono ?_
 rintro e w2 ⟨rfl, ⟨m, rfl⟩⟩
 go_wp2_with fail
 clear e01
 go_loopw [7, 9] (fun v7 v9 wr => ∃ i : Nat, i ≤ l.length ∧ v7 = .int .i64 (fold o f (l.take i)) ∧ v9 = .int .i64 i ∧ Below w.heap.size w wr) (fun _ v9 _ => l.length - (intOf v9).toNat)
 case atStart => exact ⟨0, Nat.zero_le _, rfl, rfl, pw_below_drewN HB1.out _⟩
 case round =>
  obtain ⟨i, hi, rfl, rfl, hb⟩ := hrel
  have q0 : wr.cell? ⟨g, 0, none⟩ = some (.int .u8 o) := (hb.cell (p := ⟨g, 0, none⟩) lg).trans e0
  have q1 : wr.cell? ⟨g, 1, none⟩ = some (.slice (some ⟨gv, 0, none⟩) ls.length cap) := (hb.cell (p := ⟨g, 1, none⟩) lg).trans e1
  have q2 : wr.cell? ⟨gv, j, none⟩ = some (.slice A l.length c) := (hb.cell (p := ⟨gv, j, none⟩) lgv).trans er
  by_cases hlt : i < l.length
  ·obtain ⟨b, rfl, lb, ex⟩ := HX.out i l[i] (List.getElem?_eq_getElem hlt)
   have q3 : wr.cell? ⟨b, i, none⟩ = some (.int .i64 l[i]) := (hb.cell (p := ⟨b, i, none⟩) lb).trans ex
   obtain ⟨x, hx⟩ : ∃ x, x = l[i] := ⟨_, rfl⟩
   rw [← hx] at q3
   obtain ⟨acc, hacc⟩ : ∃ a, a = fold o f (l.take i) := ⟨_, rfl⟩
   rw [← hacc]
   have lgr : g < wr.heap.size := Nat.lt_of_lt_of_le lg hb.size
   have lgvr : gv < wr.heap.size := Nat.lt_of_lt_of_le lgv hb.size
   have lbr : b < wr.heap.size := Nat.lt_of_lt_of_le lb hb.size
   have HA := Lib.hid hacc
   have HXI := Lib.hid hx
   have HB := Lib.hid hb
   clear hacc hx hb ex er e0 e1
   go_wp2_with fail
   refine start_ (n := 21) (S := fun w' => w'.cell? ⟨g, 0, none⟩ = some (.int .u8 o) ∧ w'.cell? ⟨g, 1, none⟩ = some (.slice (some ⟨gv, 0, none⟩) ls.length cap) ∧ w'.cell? ⟨gv, j, none⟩ = some (.slice (some ⟨b, 0, none⟩) l.length c) ∧ w'.cell? ⟨b, i, none⟩ = some (.int .i64 x)) (ds := []) #[false,false,false,false,false,false,false,false,false,false,false,false,false,false,false,false,false,false,false,false,false] (by kernel_rfl) rfl rfl ⟨q0, q1, q2, q3⟩ (fun hHeld => ?_)
   refine pure_ (i := 0) (N := some 37) (v := ?_) (a' := ?_) #[true,false,false,false,false,false,false,false,false,false,false,false,false,false,false,false,false,false,false,false,false] rfl rfl (by kernel_rfl) (fun _ _ _ h => h) (Or.inl ⟨by rfl, ?_⟩) ?_ ?_
   rotate_left
   ·intro w'
    go_simp
    with_reducible rfl
   rotate_left
   ·simp only [Act.put, List.setIfInBounds_toArray, List.set_cons_zero, List.set_cons_succ, i64_w, i32_w]
    rfl
   refine pure_ (i := 1) (N := some 38) (v := ?_) (a' := ?_) #[true,true,false,false,false,false,false,false,false,false,false,false,false,false,false,false,false,false,false,false,false] rfl rfl (by kernel_rfl) (fun _ _ _ h => h) (Or.inl ⟨by rfl, ?_⟩) ?_ ?_
   rotate_left
   ·intro w'
    go_simp
    with_reducible rfl
   rotate_left
   ·simp only [Act.put, List.setIfInBounds_toArray, List.set_cons_zero, List.set_cons_succ, i64_w, i32_w]
    rfl
   refine pure_ (i := 2) (N := some 39) (v := ?_) (a' := ?_) #[true,true,true,false,false,false,false,false,false,false,false,false,false,false,false,false,false,false,false,false,false] rfl rfl (by kernel_rfl) (fun _ _ _ h => h) (Or.inl ⟨by rfl, ?_⟩) ?_ ?_
   rotate_left
   ·intro w'
    go_simp
    with_reducible rfl
   rotate_left
   ·simp only [Act.put, List.setIfInBounds_toArray, List.set_cons_zero, List.set_cons_succ, i64_w, i32_w]
    rfl
   refine pure_ (i := 4) (N := some 41) (v := ?_) (a' := ?_) #[true,true,true,false,true,false,false,false,false,false,false,false,false,false,false,false,false,false,false,false,false] rfl rfl (by kernel_rfl) (fun _ _ _ h => h) (Or.inl ⟨by rfl, ?_⟩) ?_ ?_
   rotate_left
   ·intro w'
    go_simp
    with_reducible rfl
   rotate_left
   ·simp only [Act.put, List.setIfInBounds_toArray, List.set_cons_zero, List.set_cons_succ, i64_w, i32_w]
    rfl
   refine pure_ (i := 5) (N := some 42) (v := ?_) (a' := ?_) #[true,true,true,false,true,true,false,false,false,false,false,false,false,false,false,false,false,false,false,false,false] rfl rfl (by kernel_rfl) (fun _ _ _ h => h) (Or.inl ⟨by rfl, ?_⟩) ?_ ?_
   rotate_left
   ·intro w'
    go_simp
    with_reducible rfl
   rotate_left
   ·simp only [Act.put, List.setIfInBounds_toArray, List.set_cons_zero, List.set_cons_succ, i64_w, i32_w]
    rfl
   refine pure_ (i := 6) (N := some 43) (v := ?_) (a' := ?_) #[true,true,true,false,true,true,true,false,false,false,false,false,false,false,false,false,false,false,false,false,false] rfl rfl (by kernel_rfl) (fun _ _ _ h => h) (Or.inl ⟨by rfl, ?_⟩) ?_ ?_
   rotate_left
   ·intro w'
    go_simp
    with_reducible rfl
   rotate_left
   ·simp only [Act.put, List.setIfInBounds_toArray, List.set_cons_zero, List.set_cons_succ, i64_w, i32_w]
    rfl
   refine pure_ (i := 7) (N := some 44) (v := ?_) (a' := ?_) #[true,true,true,false,true,true,true,true,false,false,false,false,false,false,false,false,false,false,false,false,false] rfl rfl (by kernel_rfl) (fun _ _ _ h => h) (Or.inl ⟨by rfl, ?_⟩) ?_ ?_
   rotate_left
   ·intro w'
    go_simp
    with_reducible rfl
   rotate_left
   ·simp only [Act.put, List.setIfInBounds_toArray, List.set_cons_zero, List.set_cons_succ, i64_w, i32_w]
    rfl
   refine pure_ (i := 9) (N := some 46) (v := ?_) (a' := ?_) #[true,true,true,false,true,true,true,true,false,true,false,false,false,false,false,false,false,false,false,false,false] rfl rfl (by kernel_rfl) (fun _ _ _ h => h) (Or.inl ⟨by rfl, ?_⟩) ?_ ?_
   rotate_left
   ·intro w'
    go_simp
    with_reducible rfl
   rotate_left
   ·simp only [Act.put, List.setIfInBounds_toArray, List.set_cons_zero, List.set_cons_succ, i64_w, i32_w]
    rfl
   refine pure_ (i := 12) (N := some 49) (v := ?_) (a' := ?_) #[true,true,true,false,true,true,true,true,false,true,false,false,true,false,false,false,false,false,false,false,false] rfl rfl (by kernel_rfl) (fun _ _ _ h => h) (Or.inl ⟨by rfl, ?_⟩) ?_ ?_
   rotate_left
   ·intro w'
    go_simp
    with_reducible rfl
   rotate_left
   ·simp only [Act.put, List.setIfInBounds_toArray, List.set_cons_zero, List.set_cons_succ, i64_w, i32_w]
    rfl
   refine take_ (i := 3) (N := some 40) (v := ?_) (a' := ?_) #[true,true,true,true,true,true,true,true,false,true,false,false,true,false,false,false,false,false,false,false,false] rfl rfl (by kernel_rfl) (fun _ _ _ h => h) (Or.inl ⟨by rfl, ?_⟩) hHeld ?_ ?_
   rotate_left
   ·rintro w' ⟨s0, s1, s2, s3⟩
    go_simp
    with_reducible rfl
   rotate_left
   ·simp only [Act.put, List.setIfInBounds_toArray, List.set_cons_zero, List.set_cons_succ, i64_w, i32_w]
    rfl
   refine take_ (i := 8) (N := some 45) (v := ?_) (a' := ?_) #[true,true,true,true,true,true,true,true,true,true,false,false,true,false,false,false,false,false,false,false,false] rfl rfl (by kernel_rfl) (fun _ _ _ h => h) (Or.inl ⟨by rfl, ?_⟩) hHeld ?_ ?_
   rotate_left
   ·rintro w' ⟨s0, s1, s2, s3⟩
    go_simp
    with_reducible rfl
   rotate_left
   ·simp only [Act.put, List.setIfInBounds_toArray, List.set_cons_zero, List.set_cons_succ, i64_w, i32_w]
    rfl
   refine pure_ (i := 10) (N := some 47) (v := ?_) (a' := ?_) #[true,true,true,true,true,true,true,true,true,true,true,false,true,false,false,false,false,false,false,false,false] rfl rfl (by kernel_rfl) (fun _ _ _ h => h) (Or.inl ⟨by rfl, ?_⟩) ?_ ?_
   rotate_left
   ·intro w'
    go_simp
    with_reducible rfl
   rotate_left
   ·simp only [Act.put, List.setIfInBounds_toArray, List.set_cons_zero, List.set_cons_succ, i64_w, i32_w]
    rfl
   refine take_ (i := 11) (N := some 48) (v := ?_) (a' := ?_) #[true,true,true,true,true,true,true,true,true,true,true,true,true,false,false,false,false,false,false,false,false] rfl rfl (by kernel_rfl) (fun _ _ _ h => h) (Or.inl ⟨by rfl, ?_⟩) hHeld ?_ ?_
   rotate_left
   ·rintro w' ⟨s0, s1, s2, s3⟩
    go_simp
    with_reducible rfl
   rotate_left
   ·simp only [Act.put, List.setIfInBounds_toArray, List.set_cons_zero, List.set_cons_succ, i64_w, i32_w]
    rfl
   refine pure_ (i := 13) (N := some 50) (v := ?_) (a' := ?_) #[true,true,true,true,true,true,true,true,true,true,true,true,true,true,false,false,false,false,false,false,false] rfl rfl (by kernel_rfl) (fun _ _ _ h => h) (Or.inl ⟨by rfl, ?_⟩) ?_ ?_
   rotate_left
   ·intro w'
    go_simp
    with_reducible rfl
   rotate_left
   ·simp only [Act.put, List.setIfInBounds_toArray, List.set_cons_zero, List.set_cons_succ, i64_w, i32_w]
    rfl
   refine take_ (i := 14) (N := some 51) (v := ?_) (a' := ?_) #[true,true,true,true,true,true,true,true,true,true,true,true,true,true,true,false,false,false,false,false,false] rfl rfl (by kernel_rfl) (fun _ _ _ h => h) (Or.inl ⟨by rfl, ?_⟩) hHeld ?_ ?_
   rotate_left
   ·rintro w' ⟨s0, s1, s2, s3⟩
    go_simp
    with_reducible rfl
   rotate_left
   ·simp only [Act.put, List.setIfInBounds_toArray, List.set_cons_zero, List.set_cons_succ, i64_w, i32_w]
    rfl
   refine one_ (i := 15) (N := some 52) #[true,true,true,true,true,true,true,true,true,true,true,true,true,true,true,true,false,false,false,false,false] rfl rfl (by kernel_rfl) (by decide) (fun K hK => ?_)
   refine value_ (w1 := ?_) (v := ?_) (by rfl) rfl ?_ ?_
   rotate_left 2
   ·go_simp
    constructor
    ·rfl
    ·rfl
   refine hK.out _ _ ⟨(by go_simp), (by go_simp), (by go_simp), (by go_simp)⟩ (fun hHeld => ?_)
   clear hK K
   refine norm_ (a' := ?_) ?_ ?_
   rotate_left
   ·show Act.put _ (some 52) _ = _
    simp only [Act.put, List.setIfInBounds_toArray, List.set_cons_zero, List.set_cons_succ, i64_w, i32_w]
    rfl
   refine one_ (i := 16) (N := some 53) #[true,true,true,true,true,true,true,true,true,true,true,true,true,true,true,true,true,false,false,false,false] rfl rfl (by kernel_rfl) (by decide) (fun K hK => ?_)
   refine goes_ Try.func45 (by kernel_rfl) rfl #[.int .u8 o, .slice (some ⟨wr.heap.size, 0, none⟩) 2 2] (by rfl) rfl rfl (by simp only [List.map_toArray, List.map_cons, List.map_nil]; rfl) ?_
   with_reducible refine (rdo2 o acc x ho _ _ (by go_simp) (by go_simp)).mono ?_
   rintro e w3 ⟨rfl, hb⟩
   refine ⟨_, rfl, ?_⟩
   have hB2 : Below wr.heap.size wr w3 := below_step (by repeat (first | exact Below.refl _ _ | apply below_drew1 | apply below_alloc)) hb
   refine hK.out _ _ ⟨(hB2.cell lgr).trans q0, (hB2.cell lgr).trans q1, (hB2.cell lgvr).trans q2, (hB2.cell lbr).trans q3⟩ (fun hHeld => ?_)
   clear hK K
   refine norm_ (a' := ?_) ?_ ?_
   rotate_left
   ·show Act.put _ (some 53) _ = _
    simp only [Act.put, List.setIfInBounds_toArray, List.set_cons_zero, List.set_cons_succ, i64_w, i32_w]
    rfl
   refine pure_ (i := 17) (N := some 36) (v := ?_) (a' := ?_) #[true,true,true,true,true,true,true,true,true,true,true,true,true,true,true,true,true,true,false,false,false] rfl rfl (by kernel_rfl) (fun _ _ _ h => h) (Or.inl ⟨by rfl, ?_⟩) ?_ ?_
   rotate_left
   ·intro w'
    go_simp
    with_reducible rfl
   rotate_left
   ·simp only [Act.put, List.setIfInBounds_toArray, List.set_cons_zero, List.set_cons_succ, i64_w, i32_w]
    rfl
   refine pure_ (i := 18) (N := some 54) (v := ?_) (a' := ?_) #[true,true,true,true,true,true,true,true,true,true,true,true,true,true,true,true,true,true,true,false,false] rfl rfl (by kernel_rfl) (fun _ _ _ h => h) (Or.inl ⟨by rfl, ?_⟩) ?_ ?_
   rotate_left
   ·intro w'
    go_simp
    with_reducible rfl
   rotate_left
   ·simp only [Act.put, List.setIfInBounds_toArray, List.set_cons_zero, List.set_cons_succ, i64_w, i32_w]
    rfl
   refine pure_ (i := 19) (N := some 55) (v := ?_) (a' := ?_) #[true,true,true,true,true,true,true,true,true,true,true,true,true,true,true,true,true,true,true,true,false] rfl rfl (by kernel_rfl) (fun _ _ _ h => h) (Or.inl ⟨by rfl, ?_⟩) ?_ ?_
   rotate_left
   ·intro w'
    go_simp
    with_reducible rfl
   rotate_left
   ·simp only [Act.put, List.setIfInBounds_toArray, List.set_cons_zero, List.set_cons_succ, i64_w, i32_w]
    rfl
   refine pure_ (i := 20) (N := some 7) (v := ?_) (a' := ?_) #[true,true,true,true,true,true,true,true,true,true,true,true,true,true,true,true,true,true,true,true,true] rfl rfl (by kernel_rfl) (fun _ _ _ h => h) (Or.inl ⟨by rfl, ?_⟩) ?_ ?_
   rotate_left
   ·intro w'
    go_simp
    with_reducible rfl
   rotate_left
   ·simp only [Act.put, List.setIfInBounds_toArray, List.set_cons_zero, List.set_cons_succ, i64_w, i32_w]
    rfl
   refine done_ (by kernel_rfl) ?_
   have HB2 := Lib.hid hB2
   clear hB2 hb
   go_wp2
   go_roundw
   case rel =>
    refine ⟨i + 1, by omega, ?_, by go_num, below_step HB.out HB2.out⟩
    rw [List.take_succ_eq_append_getElem hlt, fold, List.foldl_append, List.foldl_cons, List.foldl_nil, ← HXI.out]
    have := HA.out
    rw [fold] at this
    rw [← this]
   case measure => simp [intOf]; omega
  ·have hie : i = l.length := by omega
   have HE := Lib.hid hie
   have HB := Lib.hid hb
   clear hb hie
   go_wp2
   go_ret2
   refine ⟨?_, HB.out⟩
   rw [HE.out, List.take_length]
   rfl
end Go.Proofs.Ytdohoajphknciaa.Agg
