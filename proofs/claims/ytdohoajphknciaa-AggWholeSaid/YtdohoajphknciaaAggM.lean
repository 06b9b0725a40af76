/- The law's own: a deed on both, whether both tell the same. -/
import Derived.Test.YtdohoajphknciaaAggL
set_option linter.unusedSimpArgs false
set_option linter.unusedVariables false
namespace Go.Proofs.Ytdohoajphknciaa.Agg
open Go.RowKit Go.Proofs.Ytdohoajphknciaa.PT Go.Proofs.Ytdohoajphknciaa.Pure Go.Proofs.Ytdohoajphknciaa.Perm Go.Proofs.YtdohoajphknciaaW.PrintWords Go.Proofs.YtdohoajphknciaaW.PrintLast Go.Proofs.YtdohoajphknciaaW.PrintMore

/-- A deed. -/
def did (ls : List (List Int)) (d : Int × Int × Int) : List (List Int) := if d.1 = 0 then took ls d.2.1 d.2.2 else if d.1 = 1 then List.replicate ls.length [] else ls
theorem did_len (ls : List (List Int)) (d : Int × Int × Int) : (did ls d).length = ls.length := by
 unfold did
 split
 ·exact took_len ..
 ·split
  ·simp
  ·rfl
theorem May.took {o f : Int} {ls : List (List Int)} {M : Nat} (h : May o f ls M) (worker x : Int) : May o f (took ls worker x) (M + 1) := by
 refine ⟨h.red, by rw [took_len]; exact h.one, by rw [took_len]; exact h.four, fun l hl => ?_⟩
 unfold Agg.took at hl
 split at hl
 ·exact Nat.le_trans (h.few l hl) (Nat.le_succ M)
 ·rcases List.mem_or_eq_of_mem_set hl with hl | rfl
  ·exact Nat.le_trans (h.few l hl) (Nat.le_succ M)
  ·have := h.at worker.toNat
   simp only [List.length_append, List.length_singleton]
   omega
theorem May.did {o f : Int} {ls : List (List Int)} {M : Nat} (h : May o f ls M) (d : Int × Int × Int) : May o f (did ls d) (M + 1) := by
 unfold Agg.did
 split
 ·exact h.took _ _
 ·split
  ·exact ⟨h.red, by simpa using h.one, by simpa using h.four, fun l hl => by simp at hl; simp [hl.2]⟩
  ·exact h.less (Nat.le_succ M)

/-- Both, each above a mark. -/
structure Two (w : World) (base : Nat) (b : Bool) (A R : Option Addr) (o f : Int) (ls : List (List Int)) : Prop where
 a : AgN w b A o f ls
 r : RfN w b R o ls
 la : ∀ g, blk A = some g → base ≤ g
 lr : ∀ g, blk R = some g → base ≤ g
theorem grown_base {w w' : World} {base : Nat} {r : Option Nat} (hg : w.grownBy w' r) (hb : base ≤ w.heap.size) (hr : ∀ g, r = some g → base ≤ g) : Below base w w' :=
 (Below.refl base w).grown hg hb hr
theorem Two.take {w w' : World} {base : Nat} {b : Bool} {A R : Option Addr} {o f : Int} {ls : List (List Int)} (h : Two w base b A R o f ls) (ls' : List (List Int)) (h1 : AgN w' b A o f ls') (hg : w.grownBy w' (blk A)) : AgN w' b A o f ls' ∧ RfN w' b R o ls := ⟨h1, h.r.kept hg h.a.apart (h.a.ne h.r)⟩

theorem below_keep {base : Nat} {w W w2 : World} (h : Below base w W) (k : Below base W w2) (hb : base ≤ w.heap.size) : Below base w w2 := by
 refine ⟨k.os.trans h.os, k.tape.trans h.tape, k.output.trans h.output, Nat.le_trans h.size k.size, fun q hq => (k.block q hq).trans (h.block q hq)⟩

theorem AgN.lt {w : World} {b : Bool} {A : Option Addr} {o f : Int} {ls : List (List Int)} (h : AgN w b A o f ls) : blk A ≠ some w.heap.size := by
 cases b with
 | false => rw [show A = none from h]; simp [blk]
 | true =>
  obtain ⟨g, rfl, h⟩ := h
  have := h.lt
  intro e
  injection e with e
  simp only at e
  omega
theorem RfN.lt {w : World} {b : Bool} {R : Option Addr} {o : Int} {ls : List (List Int)} (h : RfN w b R o ls) : blk R ≠ some w.heap.size := by
 cases b with
 | false => rw [show R = none from h]; simp [blk]
 | true =>
  obtain ⟨g, rfl, h⟩ := h
  have := h.lt
  intro e
  injection e with e
  simp only at e
  omega
theorem grown_cell {w w' : World} {r : Option Nat} {p : Addr} (hg : w.grownBy w' r) (hp : p.block < w.heap.size) (hr : r ≠ some p.block) : w'.cell? p = w.cell? p := by
 have := hg.block p.block hp (fun e => hr e.symm)
 simp [World.cell?, this]
theorem below_less {w w' : World} {n m : Nat} (h : Below n w w') (hm : m ≤ n) : Below m w w' := ⟨h.os, h.tape, h.output, h.size, fun k hk => h.block k (Nat.lt_of_lt_of_le hk hm)⟩
theorem Two.step_a {w W w3 : World} {base : Nat} {b : Bool} {A R : Option Addr} {o f : Int} {ls : List (List Int)} (h : Two w base b A R o f ls) (hW : Below w.heap.size w W) (hg : W.grownBy w3 (blk A)) : RfN w3 b R o ls :=
 (h.r.below hW).kept hg (h.a.below hW).apart ((h.a.below hW).ne (h.r.below hW))
theorem step_r {w3 w4 : World} {b : Bool} {A R : Option Addr} {o f : Int} {ls ls' : List (List Int)} (ha : AgN w3 b A o f ls') (hr : RfN w3 b R o ls) (hg : w3.grownBy w4 (blk R)) : AgN w4 b A o f ls' := ha.kept hg (ha.ne' hr)
theorem Two.frame {w W w3 w4 : World} {base : Nat} {b : Bool} {A R : Option Addr} {o f : Int} {ls : List (List Int)} (h : Two w base b A R o f ls) (hb : base ≤ w.heap.size) (hW : Below w.heap.size w W) (hg : W.grownBy w3 (blk A)) (hg2 : w3.grownBy w4 (blk R)) : Below base w w4 :=
 have h1 := below_less hW hb
 have h2 := h1.grown hg (Nat.le_trans hb hW.size) h.la
 h2.grown hg2 (Nat.le_trans hb (Nat.le_trans hW.size hg.size)) h.lr

set_option maxHeartbeats 4000000 in
theorem do_ok (base : Nat) (b : Bool) (A R : Option Addr) (o f : Int) (ls : List (List Int)) (kind worker x : Int) (w : World) (h : Two w base b A R o f ls) (hm : b = true → May o f ls 999) (hb : base ≤ w.heap.size) :
  Calls Try.prog 20 #[.pointer A, .pointer R, .agg #[.int .i64 kind, .int .i64 worker, .int .i64 x]] w fun e w' => e = .returned (.bool true) ∧ Two w' base b A R o f (did ls (kind, worker, x)) ∧ Below base w w' := by
 have H := Lib.hid h
 have HM := Lib.hid hm
 clear h hm
 by_cases h0 : kind = 0
 ·subst h0
  have z0 : ((0 : Int) == 0) = true := by decide
  go_enter Try.func20, Try.ntmps20
  go_wp2_with fail
  refine start_ (n := 14) (S := fun w' => w'.cell? ⟨w.heap.size, 1, none⟩ = some (.int .i64 worker) ∧ w'.cell? ⟨w.heap.size, 2, none⟩ = some (.int .i64 x)) (ds := []) #[false,false,false,false,false,false,false,false,false,false,false,false,false,false] (by kernel_rfl) rfl rfl ⟨(by go_simp), (by go_simp)⟩ (fun hHeld => ?_)
  refine pure_ (i := 0) (N := some 11) (v := ?_) (a' := ?_) #[true,false,false,false,false,false,false,false,false,false,false,false,false,false] rfl rfl (by kernel_rfl) (fun _ _ _ h => h) (Or.inl ⟨by rfl, ?_⟩) ?_ ?_
  rotate_left
  ·intro w'
   go_simp
   with_reducible rfl
  rotate_left
  ·simp only [Act.put, List.setIfInBounds_toArray, List.set_cons_zero, List.set_cons_succ, i64_w, i32_w]
   rfl
  refine pure_ (i := 1) (N := some 12) (v := ?_) (a' := ?_) #[true,true,false,false,false,false,false,false,false,false,false,false,false,false] rfl rfl (by kernel_rfl) (fun _ _ _ h => h) (Or.inl ⟨by rfl, ?_⟩) ?_ ?_
  rotate_left
  ·intro w'
   go_simp
   with_reducible rfl
  rotate_left
  ·simp only [Act.put, List.setIfInBounds_toArray, List.set_cons_zero, List.set_cons_succ, i64_w, i32_w]
   rfl
  refine pure_ (i := 3) (N := some 14) (v := ?_) (a' := ?_) #[true,true,false,true,false,false,false,false,false,false,false,false,false,false] rfl rfl (by kernel_rfl) (fun _ _ _ h => h) (Or.inl ⟨by rfl, ?_⟩) ?_ ?_
  rotate_left
  ·intro w'
   go_simp
   with_reducible rfl
  rotate_left
  ·simp only [Act.put, List.setIfInBounds_toArray, List.set_cons_zero, List.set_cons_succ, i64_w, i32_w]
   rfl
  refine pure_ (i := 6) (N := some 17) (v := ?_) (a' := ?_) #[true,true,false,true,false,false,true,false,false,false,false,false,false,false] rfl rfl (by kernel_rfl) (fun _ _ _ h => h) (Or.inl ⟨by rfl, ?_⟩) ?_ ?_
  rotate_left
  ·intro w'
   go_simp
   with_reducible rfl
  rotate_left
  ·simp only [Act.put, List.setIfInBounds_toArray, List.set_cons_zero, List.set_cons_succ, i64_w, i32_w]
   rfl
  refine pure_ (i := 7) (N := some 18) (v := ?_) (a' := ?_) #[true,true,false,true,false,false,true,true,false,false,false,false,false,false] rfl rfl (by kernel_rfl) (fun _ _ _ h => h) (Or.inl ⟨by rfl, ?_⟩) ?_ ?_
  rotate_left
  ·intro w'
   go_simp
   with_reducible rfl
  rotate_left
  ·simp only [Act.put, List.setIfInBounds_toArray, List.set_cons_zero, List.set_cons_succ, i64_w, i32_w]
   rfl
  refine pure_ (i := 9) (N := some 20) (v := ?_) (a' := ?_) #[true,true,false,true,false,false,true,true,false,true,false,false,false,false] rfl rfl (by kernel_rfl) (fun _ _ _ h => h) (Or.inl ⟨by rfl, ?_⟩) ?_ ?_
  rotate_left
  ·intro w'
   go_simp
   with_reducible rfl
  rotate_left
  ·simp only [Act.put, List.setIfInBounds_toArray, List.set_cons_zero, List.set_cons_succ, i64_w, i32_w]
   rfl
  refine take_ (i := 2) (N := some 13) (v := ?_) (a' := ?_) #[true,true,true,true,false,false,true,true,false,true,false,false,false,false] rfl rfl (by kernel_rfl) (fun _ _ _ h => h) (Or.inl ⟨by rfl, ?_⟩) hHeld ?_ ?_
  rotate_left
  ·rintro w' ⟨s0, s1⟩
   go_simp
   with_reducible rfl
  rotate_left
  ·simp only [Act.put, List.setIfInBounds_toArray, List.set_cons_zero, List.set_cons_succ, i64_w, i32_w]
   rfl
  refine take_ (i := 4) (N := some 15) (v := ?_) (a' := ?_) #[true,true,true,true,true,false,true,true,false,true,false,false,false,false] rfl rfl (by kernel_rfl) (fun _ _ _ h => h) (Or.inl ⟨by rfl, ?_⟩) hHeld ?_ ?_
  rotate_left
  ·rintro w' ⟨s0, s1⟩
   go_simp
   with_reducible rfl
  rotate_left
  ·simp only [Act.put, List.setIfInBounds_toArray, List.set_cons_zero, List.set_cons_succ, i64_w, i32_w]
   rfl
  refine take_ (i := 8) (N := some 19) (v := ?_) (a' := ?_) #[true,true,true,true,true,false,true,true,true,true,false,false,false,false] rfl rfl (by kernel_rfl) (fun _ _ _ h => h) (Or.inl ⟨by rfl, ?_⟩) hHeld ?_ ?_
  rotate_left
  ·rintro w' ⟨s0, s1⟩
   go_simp
   with_reducible rfl
  rotate_left
  ·simp only [Act.put, List.setIfInBounds_toArray, List.set_cons_zero, List.set_cons_succ, i64_w, i32_w]
   rfl
  refine take_ (i := 10) (N := some 21) (v := ?_) (a' := ?_) #[true,true,true,true,true,false,true,true,true,true,true,false,false,false] rfl rfl (by kernel_rfl) (fun _ _ _ h => h) (Or.inl ⟨by rfl, ?_⟩) hHeld ?_ ?_
  rotate_left
  ·rintro w' ⟨s0, s1⟩
   go_simp
   with_reducible rfl
  rotate_left
  ·simp only [Act.put, List.setIfInBounds_toArray, List.set_cons_zero, List.set_cons_succ, i64_w, i32_w]
   rfl
  refine one_ (i := 5) (N := some 16) #[true,true,true,true,true,true,true,true,true,true,true,false,false,false] rfl rfl (by kernel_rfl) (by decide) (fun K hK => ?_)
  refine goes_ Try.func14 (by kernel_rfl) rfl #[.pointer A, .int .i64 worker, .int .i64 x] (by rfl) rfl rfl (by simp only [List.map_toArray, List.map_cons, List.map_nil]; rfl) ?_
  with_reducible refine (take_A b A o f worker x ls _ (H.out.a.below (by repeat (first | exact Below.refl _ _ | apply below_drew1 | apply below_alloc))) (fun e => (HM.out e).less (by decide))).mono ?_
  rintro e w3 ⟨rfl, ha3, hg3⟩
  refine ⟨_, rfl, ?_⟩
  have hr3 := H.out.step_a (by repeat (first | exact Below.refl _ _ | apply below_drew1 | apply below_alloc)) hg3
  have hc1 : w3.cell? ⟨w.heap.size, 1, none⟩ = some (.int .i64 worker) := (grown_cell hg3 (by simp) H.out.a.lt).trans (by go_simp)
  have hc2 : w3.cell? ⟨w.heap.size, 2, none⟩ = some (.int .i64 x) := (grown_cell hg3 (by simp) H.out.a.lt).trans (by go_simp)
  have ls3 : w.heap.size < w3.heap.size := Nat.lt_of_lt_of_le (by simp) hg3.size
  refine hK.out _ _ ⟨hc1, hc2⟩ (fun hHeld => ?_)
  clear hK K
  refine norm_ (a' := ?_) ?_ ?_
  rotate_left
  ·show Act.put _ (some 16) _ = _
   simp only [Act.put, List.setIfInBounds_toArray, List.set_cons_zero, List.set_cons_succ, i64_w, i32_w]
   rfl
  refine one_ (i := 11) (N := some 22) #[true,true,true,true,true,true,true,true,true,true,true,true,false,false] rfl rfl (by kernel_rfl) (by decide) (fun K hK => ?_)
  refine goes_ Try.func35 (by kernel_rfl) rfl #[.pointer R, .int .i64 worker, .int .i64 x] (by rfl) rfl rfl (by simp only [List.map_toArray, List.map_cons, List.map_nil]; rfl) ?_
  with_reducible refine (take_R b R o f worker x ls _ hr3 (fun e => (HM.out e).less (by decide))).mono ?_
  rintro e w4 ⟨rfl, hr4, hg4⟩
  refine ⟨_, rfl, ?_⟩
  have ha4 := step_r ha3 hr3 hg4
  have hF := H.out.frame hb (by repeat (first | exact Below.refl _ _ | apply below_drew1 | apply below_alloc)) hg3 hg4
  have hd1 : w4.cell? ⟨w.heap.size, 1, none⟩ = some (.int .i64 worker) := (grown_cell hg4 ls3 H.out.r.lt).trans hc1
  have hd2 : w4.cell? ⟨w.heap.size, 2, none⟩ = some (.int .i64 x) := (grown_cell hg4 ls3 H.out.r.lt).trans hc2
  refine hK.out _ _ ⟨hd1, hd2⟩ (fun hHeld => ?_)
  clear hK K
  refine norm_ (a' := ?_) ?_ ?_
  rotate_left
  ·show Act.put _ (some 22) _ = _
   simp only [Act.put, List.setIfInBounds_toArray, List.set_cons_zero, List.set_cons_succ, i64_w, i32_w]
   rfl
  refine pure_ (i := 12) (N := some 23) (v := ?_) (a' := ?_) #[true,true,true,true,true,true,true,true,true,true,true,true,true,false] rfl rfl (by kernel_rfl) (fun _ _ _ h => h) (Or.inl ⟨by rfl, ?_⟩) ?_ ?_
  rotate_left
  ·intro w'
   go_simp
   with_reducible rfl
  rotate_left
  ·simp only [Act.put, List.setIfInBounds_toArray, List.set_cons_zero, List.set_cons_succ, i64_w, i32_w]
   rfl
  refine pure_ (i := 13) (N := some 6) (v := ?_) (a' := ?_) #[true,true,true,true,true,true,true,true,true,true,true,true,true,true] rfl rfl (by kernel_rfl) (fun _ _ _ h => h) (Or.inl ⟨by rfl, ?_⟩) ?_ ?_
  rotate_left
  ·intro w'
   go_simp
   with_reducible rfl
  rotate_left
  ·simp only [Act.put, List.setIfInBounds_toArray, List.set_cons_zero, List.set_cons_succ, i64_w, i32_w]
   rfl
  refine done_ (by kernel_rfl) ?_
  have HA4 := Lib.hid ha4
  have HR4 := Lib.hid hr4
  have HF := Lib.hid hF
  clear ha3 hr3 hg3 ha4 hr4 hg4 hF hc1 hc2 hd1 hd2
  go_wp2
  go_ret
  exact ⟨rfl, ⟨HA4.out, HR4.out, H.out.la, H.out.lr⟩, HF.out⟩
 ·by_cases h1 : kind = 1
  ·subst h1
   have z0 : ((1 : Int) == 0) = false := by decide
   have z1 : ((1 : Int) == 1) = true := by decide
   go_enter Try.func20, Try.ntmps20
   go_wp2_with fail
   refine (clear_A b A o f ls _ (H.out.a.below (by repeat (first | exact Below.refl _ _ | apply below_drew1 | apply below_alloc)))).mono ?_
   rintro e w3 ⟨rfl, ha3, hg3⟩
   have hW : Below w.heap.size w (w.alloc (.cells #[.int .i64 1, .int .i64 worker, .int .i64 x] 48)) := by repeat (first | exact Below.refl _ _ | apply below_drew1 | apply below_alloc)
   have hr3 := H.out.step_a hW hg3
   have HA3 := Lib.hid ha3
   have HR3 := Lib.hid hr3
   have HG3 := Lib.hid hg3
   clear ha3 hr3 hg3
   go_wp2_with fail
   refine (clear_R b R o f ls _ HR3.out (fun e => (HM.out e).less (by decide))).mono ?_
   rintro e w4 ⟨rfl, hr4, hg4⟩
   have HA4 := Lib.hid (step_r HA3.out HR3.out hg4)
   have HR4 := Lib.hid hr4
   have HF := Lib.hid (H.out.frame hb hW HG3.out hg4)
   clear hr4 hg4
   go_wp2
   go_ret
   exact ⟨rfl, ⟨HA4.out, HR4.out, H.out.la, H.out.lr⟩, HF.out⟩
  ·have z0 : (kind == 0) = false := beq_eq_false_iff_ne.2 h0
   have z1 : (kind == 1) = false := beq_eq_false_iff_ne.2 h1
   go_enter Try.func20, Try.ntmps20
   go_wp2
   go_ret
   have hW : Below w.heap.size w (w.alloc (.cells #[.int .i64 kind, .int .i64 worker, .int .i64 x] 48)) := by repeat (first | exact Below.refl _ _ | apply below_drew1 | apply below_alloc)
   refine ⟨rfl, ?_, below_less hW hb⟩
   rw [did, if_neg h0, if_neg h1]
   exact ⟨H.out.a.below hW, H.out.r.below hW, H.out.la, H.out.lr⟩

set_option maxHeartbeats 4000000 in
theorem same_ok (base : Nat) (b : Bool) (A R : Option Addr) (o f : Int) (ls : List (List Int)) (k : Nat) (w : World) (h : Two w base b A R o f ls) (hm : b = true → May o f ls 1000) (hk : (k : Int) ≤ 18446744073709551615) :
  Calls Try.prog 11 #[.pointer A, .pointer R, .int .u64 k] w fun e w' => e = .returned (.bool true) ∧ Below w.heap.size w w' := by
 have H := Lib.hid h
 have HM := Lib.hid hm
 clear h hm
 go_enter Try.func11, Try.ntmps11
 go_wp2_with fail
 go_loopw [7] (fun v7 wr => ∃ i : Nat, i ≤ 6 ∧ v7 = .int .i64 ((i : Int) - 1) ∧ Below w.heap.size w wr) (fun v7 _ => 6 - (intOf v7 + 1).toNat)
 case atStart => exact ⟨0, by decide, rfl, Below.refl _ _⟩
 case round =>
  obtain ⟨i, hi, rfl, hbr⟩ := hrel
  obtain ⟨x, hx⟩ : ∃ x : Int, x = (i : Int) - 1 := ⟨_, rfl⟩
  have hxi : -1 ≤ x ∧ x ≤ 5 := by omega
  rw [← hx]
  by_cases hlt : i < 6
  ·have hd : decide (x ≤ 4) = true := decide_eq_true (by omega)
   have HX := Lib.hid hx
   have HB := Lib.hid hbr
   clear hx hbr
   go_wp2_with fail
   refine (part_A b A o f x ls _ (H.out.a.below HB.out) HM.out).mono ?_
   rintro e w2 ⟨rfl, hb2⟩
   have HB2 := Lib.hid (below_step HB.out hb2)
   clear hb2
   go_wp2_with fail
   refine (part_R b R o f x ls _ (H.out.r.below HB2.out) HM.out).mono ?_
   rintro e w3 ⟨rfl, hb3⟩
   have HB3 := Lib.hid (below_step HB2.out hb3)
   clear hb3
   generalize pt b o f ls x = p1
   generalize code b ls.length x = p2
   have y1 : (p1 != p1) = false := by simp
   have y2 : (p2 != p2) = false := by simp
   go_wp2
   go_roundw
   case rel => exact ⟨i + 1, by omega, by have := HX.out; subst this; go_num, HB3.out⟩
   case measure => have := HX.out; simp [intOf]; omega
  ·have hd : decide (x ≤ 4) = false := decide_eq_false (by omega)
   have HB := Lib.hid hbr
   clear hx hbr
   go_wp2_with fail
   refine (whole_A b A o f k ls _ (H.out.a.below HB.out) HM.out hk).mono ?_
   rintro e w2 ⟨rfl, hb2⟩
   have HB2 := Lib.hid (below_step HB.out hb2)
   clear hb2
   go_wp2_with fail
   refine (whole_R b R o f k ls _ (H.out.r.below HB2.out) HM.out).mono ?_
   rintro e w3 ⟨rfl, hb3⟩
   have HB3 := Lib.hid (below_step HB2.out hb3)
   clear hb3
   generalize wh b o f ls k = p1
   generalize er b = p2
   have y1 : (p1 == p1) = true := by simp
   have y2 : (p2 == p2) = true := by simp
   go_wp2_with fail
   refine (count_A b A o f ls _ (H.out.a.below HB3.out) HM.out).mono ?_
   rintro e w4 ⟨rfl, hb4⟩
   have HB4 := Lib.hid (below_step HB3.out hb4)
   clear hb4
   go_wp2_with fail
   refine (count_R b R o f ls _ (H.out.r.below HB4.out) HM.out).mono ?_
   rintro e w5 ⟨rfl, hb5⟩
   have HB5 := Lib.hid (below_step HB4.out hb5)
   clear hb5
   generalize ct b ls = p3
   have y3 : (p3 == p3) = true := by simp
   go_wp2
   go_ret
   exact ⟨rfl, HB5.out⟩
end Go.Proofs.Ytdohoajphknciaa.Agg
