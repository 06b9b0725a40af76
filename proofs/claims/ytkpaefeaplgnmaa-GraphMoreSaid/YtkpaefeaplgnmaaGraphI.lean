/- The walks of graph: so many of one number. -/
import Derived.Test.YtkpaefeaplgnmaaGraphH
import Derived.Laws.CopyOwn
set_option linter.unusedSimpArgs false
set_option linter.unusedVariables false
namespace Go.Proofs.Ytkpaefeaplgnmaa.G
open Go.RowKit Go.Proofs.Ytkpaefeaplgnmaa.PA Go.Proofs.Ytkpaefeaplgnmaa.Mp Go.Proofs.YtkpaefeaplgnmaaW.PrintWords Go.Proofs.YtkpaefeaplgnmaaW.PrintLast Go.Proofs.YtkpaefeaplgnmaaW.PrintMore

theorem mul_one {n : Nat} (h : n ≤ 12) : bits_Mul.f 1 n = some (0, (n : Int)) := by
 have : n = 0 ∨ n = 1 ∨ n = 2 ∨ n = 3 ∨ n = 4 ∨ n = 5 ∨ n = 6 ∨ n = 7 ∨ n = 8 ∨ n = 9 ∨ n = 10 ∨ n = 11 ∨ n = 12 := by omega
 rcases this with rfl | rfl | rfl | rfl | rfl | rfl | rfl | rfl | rfl | rfl | rfl | rfl | rfl <;> decide +kernel

theorem info3sz : (Try.prog.info? 3).map (·.size) = some 1 := by kernel_rfl
theorem full_row {w : World} {base g n : Nat} (ho : w.ownsRow base 3 1 (.slice (some ⟨g, 0, none⟩) n n) n (madeCells (Value.int IntKind.i64 0).cells (n * 1)).toList) : w.heap[g]? = some (.cells (List.replicate n (I 0)).toArray 3 (0, 0)) := by
 rw [show (Value.int IntKind.i64 0).cells = #[Value.int IntKind.i64 0] from rfl, toList_madeCells_one, Nat.mul_one] at ho
 rcases ho.2 with ⟨q, _⟩ | ⟨g', cap, cur, q, _, hg, _, _, hsz, htk⟩
 ·cases q
 ·injection q with q1 _ q3
  injection q1 with q1
  injection q1 with q1
  subst q1 q3
  rw [hg]
  have : cur.toList = List.replicate n (I 0) := by
   rw [Nat.mul_one] at htk
   rw [show List.replicate n (I 0) = List.replicate n (Value.int IntKind.i64 0) from rfl, ← htk, List.take_of_length_le (by rw [Array.length_toList, hsz]; omega)]
  rw [← this]
theorem copy_one {w w2 : World} {g n B : Nat} (hrow : w2.heap[g]? = some (.cells (List.replicate n (I 0)).toArray 3 (0, 0))) (h1 : 1 ≤ n) (c : Nat) (hc : w2.cell? ⟨B, 0, none⟩ = some (.int .i64 (-1))) (hb : Below w.heap.size w w2) (hg : w.heap.size ≤ g) :
  ∃ w3, (Builtin.copy_ #[27, 27] 3 #[.slice (some ⟨g, 0, none⟩) n n, .slice (some ⟨B, 0, none⟩) 1 c]).run Try.prog w2 = .ok (.int .i64 1) w3 ∧ w3.heap[g]? = some (.cells (List.replicate 1 (I (-1)) ++ List.replicate (n - 1) (I 0)).toArray 3 (0, 0)) ∧ Below w.heap.size w w3 := by
 have hrun := run_copy_row (P := Try.prog) w2 27 27 3 3 g 0 n n ⟨B, 0, none⟩ 1 c (List.replicate n (I 0)).toArray 3 [I (-1)] Try.underlying27 info3sz hrow (Nat.min_eq_left h1).symm
  (fun j v hv => by
   cases j with
   | zero => cases hv; rw [Addr.add_lit]; exact hc
   | succ j => simp at hv) (by simp; omega) (fun v hv => by rw [List.mem_singleton.1 hv]; rfl)
 refine ⟨_, hrun, ?_, below_setRow hb hg _⟩
 rw [setRow_heap w2 g _ _ 3 _ hrow]
 simp
theorem copy_more {w wr : World} {g n m : Nat} (hrow : wr.heap[g]? = some (.cells (List.replicate m (I (-1)) ++ List.replicate (n - m) (I 0)).toArray 3 (0, 0))) (h1 : 1 ≤ m) (hlt : m < n) (hb : Below w.heap.size w wr) (hg : w.heap.size ≤ g) :
  ∃ (w4 : World) (k : Nat), 1 ≤ k ∧ m + k ≤ n ∧ (Builtin.copy_ #[27, 27] 3 #[.slice (some ⟨g, m, none⟩) (n - m) (n - m), .slice (some ⟨g, 0, none⟩) m n]).run Try.prog wr = .ok (.int .i64 (k : Int)) w4 ∧ w4.heap[g]? = some (.cells (List.replicate (m + k) (I (-1)) ++ List.replicate (n - (m + k)) (I 0)).toArray 3 (0, 0)) ∧ Below w.heap.size w w4 := by
 obtain ⟨k, hk⟩ : ∃ k, k = Nat.min m (n - m) := ⟨_, rfl⟩
 have hk1 : k ≤ m := by rw [hk]; exact Nat.min_le_left _ _
 have hk2 : k ≤ n - m := by rw [hk]; exact Nat.min_le_right _ _
 have hk3 : 1 ≤ k := by
  rw [hk]
  rcases Nat.le_total m (n - m) with q | q
  ·rw [show Nat.min m (n - m) = m from Nat.min_eq_left q]; exact h1
  ·rw [show Nat.min m (n - m) = n - m from Nat.min_eq_right q]; omega
 have hrun := run_copy_row (P := Try.prog) wr 27 27 3 3 g m (n - m) (n - m) ⟨g, 0, none⟩ m n (List.replicate m (I (-1)) ++ List.replicate (n - m) (I 0)).toArray 3 (List.replicate k (I (-1))) Try.underlying27 info3sz hrow (by rw [List.length_replicate]; exact hk)
  (fun j v hv => by
   have hj : j < k := by
    obtain ⟨q, _⟩ := List.getElem?_eq_some_iff.1 hv
    simpa using q
   have hv' : v = I (-1) := by
    obtain ⟨_, q⟩ := List.getElem?_eq_some_iff.1 hv
    rw [← q]; simp
   rw [Addr.add_lit, Nat.zero_add, hv']
   simp only [World.cell?, hrow]
   simp
   rw [List.getElem?_append_left (by simp; omega)]
   rw [List.getElem?_replicate, if_pos (by omega)]) (by simp; omega) (fun v hv => by rw [(List.mem_replicate.1 hv).2]; rfl)
 rw [List.length_replicate] at hrun
 refine ⟨_, k, hk3, by omega, hrun, ?_, below_setRow hb hg _⟩
 rw [setRow_heap wr g _ _ 3 _ hrow]
 refine congrArg (fun L : List Value => some (Obj.cells L.toArray 3 (0, 0))) ?_
 rw [List.toList_toArray, List.take_append_of_le_length (by simp), List.take_of_length_le (by simp), List.drop_append, List.length_replicate, List.drop_of_length_le (by simp), List.nil_append, List.drop_replicate, List.replicate_append_replicate]
 congr 2
 omega
set_option maxHeartbeats 4000000 in
theorem repeat_ok (n : Nat) (B c : Nat) (w : World) (h1 : 1 ≤ n) (h12 : n ≤ 12) (hc : w.cell? ⟨B, 0, none⟩ = some (.int .i64 (-1))) :
  Calls Try.prog 58 #[.slice (some ⟨B, 0, none⟩) 1 c, .int .i64 n] w fun e w' => ∃ g, e = .returned (.slice (some ⟨g, 0, none⟩) n n) ∧ w.heap.size ≤ g ∧ w'.heap[g]? = some (.cells (List.replicate n (I (-1))).toArray 3 (0, 0)) ∧ Below w.heap.size w w' := by
 obtain ⟨i3, hi3, z3, s3, b3⟩ := info_parts info3'
 have lB := World.block_lt_of_cell? w _ hc
 have d0 : decide ((n : Int) < 0) = false := decide_eq_false (by omega)
 have HC := Lib.hid hc
 clear hc
 go_enter Try.func58, Try.ntmps58
 go_wp2_with fail
 refine (bits_Mul.calls 1 n 0 n _ (mul_one h12)).mono ?_
 rintro e w1 ⟨rfl, ⟨md, rfl⟩⟩
 have d2 : decide ((n : Int) > 9223372036854775807) = false := decide_eq_false (by omega)
 have d3 : decide ((9223372036854775807 : Int) < (n : Int)) = false := decide_eq_false (by omega)
 go_wp2_with ((with_reducible refine gate_dst (N := 30) rfl ?_); refine wpList_make_full _ rfl (.tmp 29) (.tmp 29) 27 rfl w.heap.size 3 i3 (.int .i64 0) 1 Try.underlying27 hi3 z3 s3 .i64 .i64 n n n rfl rfl rfl rfl (by rw [b3]; omega) (by unfold maxLen; omega) (by simp) ?_; intro w2 ho2 hg2; have hb2 : Below w.heap.size w w2 := (pw_below_drewN (Below.refl _ _) md).grown hg2 (by simp) (fun k h => by cases h); obtain ⟨w3, hcp, hw3, hb3⟩ := copy_one (g := w.heap.size) (full_row ho2) h1 c ((hb2.cell lB).trans HC.out) hb2 (Nat.le_refl _); have HW3 := Lib.hid hw3; have HB3 := Lib.hid hb3; clear ho2 hg2 hb2 hw3 hb3)
 go_loopw [8] (fun v8 wr => ∃ m : Nat, 1 ≤ m ∧ m ≤ n ∧ v8 = .int .i64 m ∧ wr.heap[w.heap.size]? = some (.cells (List.replicate m (I (-1)) ++ List.replicate (n - m) (I 0)).toArray 3 (0, 0)) ∧ Below w.heap.size w wr) (fun v8 _ => n - (intOf v8).toNat)
 case atStart => exact ⟨1, by decide, h1, rfl, HW3.out, HB3.out⟩
 case round =>
  obtain ⟨m, hm1, hmn, rfl, hrow, hb⟩ := hrel
  have HROW := Lib.hid hrow
  have HB := Lib.hid hb
  clear hrow hb
  by_cases hlt : m < n
  ·have hdl : decide ((m : Int) < (n : Int)) = true := decide_eq_true (by omega)
   have hcf := cut_from (P := Try.prog) 27 3 .i64 Try.underlying27 hi3 1 s3 (some ⟨w.heap.size, 0, none⟩) n n (m : Int) (by omega) (by omega)
   have hct := cut_to (P := Try.prog) 27 3 .i64 Try.underlying27 hi3 (some ⟨w.heap.size, 0, none⟩) n n (m : Int) (by omega) (by omega) (Nat.le_refl n)
   rw [Int.toNat_natCast] at hcf hct
   rw [if_neg (by omega), Nat.mul_one, Option.map_some, Addr.add_lit, Nat.zero_add] at hcf
   obtain ⟨w4, k, hk1, hkn, hcp, hw4, hb4⟩ := copy_more (wr := wr.drew) HROW.out hm1 hlt (below_drew1 HB.out) (Nat.le_refl _)
   have hwr : wrap64 ((m : Int) + (k : Int)) = ((m + k : Nat) : Int) := by unfold wrap64; omega
   have HW4 := Lib.hid hw4
   have HB4 := Lib.hid hb4
   clear hw4 hb4
   go_wp2_with fail
   refine start_ (n := 10) (S := fun w' => True) (ds := []) #[false,false,false,false,false,false,false,false,false,false] (by kernel_rfl) rfl rfl trivial (fun hHeld => ?_)
   refine pure_ (i := 0) (N := some 38) (v := ?_) (a' := ?_) #[true,false,false,false,false,false,false,false,false,false] rfl rfl (by kernel_rfl) (fun _ _ _ h => h) (Or.inl ⟨by rfl, ?_⟩) ?_ ?_
   rotate_left
   ·intro w'
    go_simp
    with_reducible rfl
   rotate_left
   ·simp only [Act.put, List.setIfInBounds_toArray, List.set_cons_zero, List.set_cons_succ, i64_w, i32_w]
    rfl
   refine pure_ (i := 1) (N := some 39) (v := ?_) (a' := ?_) #[true,true,false,false,false,false,false,false,false,false] rfl rfl (by kernel_rfl) (fun _ _ _ h => h) (Or.inl ⟨by rfl, ?_⟩) ?_ ?_
   rotate_left
   ·intro w'
    go_simp
    with_reducible rfl
   rotate_left
   ·simp only [Act.put, List.setIfInBounds_toArray, List.set_cons_zero, List.set_cons_succ, i64_w, i32_w]
    rfl
   refine pure_ (i := 2) (N := some 40) (v := ?_) (a' := ?_) #[true,true,true,false,false,false,false,false,false,false] rfl rfl (by kernel_rfl) (fun _ _ _ h => h) (Or.inl ⟨by rfl, ?_⟩) ?_ ?_
   rotate_left
   ·intro w'
    go_simp
    with_reducible rfl
   rotate_left
   ·simp only [Act.put, List.setIfInBounds_toArray, List.set_cons_zero, List.set_cons_succ, i64_w, i32_w]
    rfl
   refine pure_ (i := 3) (N := some 41) (v := ?_) (a' := ?_) #[true,true,true,true,false,false,false,false,false,false] rfl rfl (by kernel_rfl) (fun _ _ _ h => h) (Or.inl ⟨by rfl, ?_⟩) ?_ ?_
   rotate_left
   ·intro w'
    go_simp
    with_reducible rfl
   rotate_left
   ·simp only [Act.put, List.setIfInBounds_toArray, List.set_cons_zero, List.set_cons_succ, i64_w, i32_w]
    rfl
   refine pure_ (i := 4) (N := some 42) (v := ?_) (a' := ?_) #[true,true,true,true,true,false,false,false,false,false] rfl rfl (by kernel_rfl) (fun _ _ _ h => h) (Or.inl ⟨by rfl, ?_⟩) ?_ ?_
   rotate_left
   ·intro w'
    go_simp
    with_reducible rfl
   rotate_left
   ·simp only [Act.put, List.setIfInBounds_toArray, List.set_cons_zero, List.set_cons_succ, i64_w, i32_w]
    rfl
   refine pure_ (i := 5) (N := some 43) (v := ?_) (a' := ?_) #[true,true,true,true,true,true,false,false,false,false] rfl rfl (by kernel_rfl) (fun _ _ _ h => h) (Or.inl ⟨by rfl, ?_⟩) ?_ ?_
   rotate_left
   ·intro w'
    go_simp
    with_reducible rfl
   rotate_left
   ·simp only [Act.put, List.setIfInBounds_toArray, List.set_cons_zero, List.set_cons_succ, i64_w, i32_w]
    rfl
   refine pure_ (i := 6) (N := some 44) (v := ?_) (a' := ?_) #[true,true,true,true,true,true,true,false,false,false] rfl rfl (by kernel_rfl) (fun _ _ _ h => h) (Or.inl ⟨by rfl, ?_⟩) ?_ ?_
   rotate_left
   ·intro w'
    go_simp
    with_reducible rfl
   rotate_left
   ·simp only [Act.put, List.setIfInBounds_toArray, List.set_cons_zero, List.set_cons_succ, i64_w, i32_w]
    rfl
   refine one_ (i := 7) (N := some 45) #[true,true,true,true,true,true,true,true,false,false] rfl rfl (by kernel_rfl) (by decide) (fun K hK => ?_)
   refine value_ (w1 := ?_) (v := ?_) (by rfl) rfl ?_ ?_
   rotate_left 2
   ·go_simp
    constructor
    ·rfl
    ·rfl
   refine hK.out _ _ trivial (fun hHeld => ?_)
   clear hK K
   refine norm_ (a' := ?_) ?_ ?_
   rotate_left
   ·show Act.put _ (some 45) _ = _
    simp only [Act.put, List.setIfInBounds_toArray, List.set_cons_zero, List.set_cons_succ, i64_w, i32_w]
    rfl
   refine pure_ (i := 8) (N := some 46) (v := ?_) (a' := ?_) #[true,true,true,true,true,true,true,true,true,false] rfl rfl (by kernel_rfl) (fun _ _ _ h => h) (Or.inl ⟨by rfl, ?_⟩) ?_ ?_
   rotate_left
   ·intro w'
    go_simp
    with_reducible rfl
   rotate_left
   ·simp only [Act.put, List.setIfInBounds_toArray, List.set_cons_zero, List.set_cons_succ, i64_w, i32_w]
    rfl
   refine pure_ (i := 9) (N := some 8) (v := ?_) (a' := ?_) #[true,true,true,true,true,true,true,true,true,true] rfl rfl (by kernel_rfl) (fun _ _ _ h => h) (Or.inl ⟨by rfl, ?_⟩) ?_ ?_
   rotate_left
   ·intro w'
    go_simp
    with_reducible rfl
   rotate_left
   ·simp only [Act.put, List.setIfInBounds_toArray, List.set_cons_zero, List.set_cons_succ, i64_w, i32_w]
    rfl
   refine done_ (by kernel_rfl) ?_
   have HWR := Lib.hid hwr
   clear hwr
   go_wp2
   go_roundw
   case rel => exact ⟨m + k, by omega, hkn, by go_num, HW4.out, HB4.out⟩
   case measure => simp [intOf]; omega
  ·have hdl : decide ((m : Int) < (n : Int)) = false := decide_eq_false (by omega)
   have hmn' : m = n := by omega
   have HE := Lib.hid hmn'
   clear hmn'
   go_wp2
   go_ret
   refine ⟨w.heap.size, rfl, Nat.le_refl _, ?_, HB.out⟩
   have := HROW.out
   rw [HE.out] at this
   simpa using this
end Go.Proofs.Ytkpaefeaplgnmaa.G
