/- The document's columns: Fork. -/
import Derived.Test.YtpcjppefopjngaaRg
set_option linter.unusedSimpArgs false
set_option linter.unusedVariables false
namespace Go.Proofs.Ytpcjppefopjngaa.C
open Go.RowKit Go.Proofs.Ytpcjppefopjngaa.Sk Go.Proofs.Ytpcjppefopjngaa.PA Go.Proofs.Ytpcjppefopjngaa.Mp Go.Proofs.YtpcjppefopjngaaW.PrintWords Go.Proofs.YtpcjppefopjngaaW.PrintLast Go.Proofs.YtpcjppefopjngaaW.PrintMore
set_option maxRecDepth 100000 in
set_option maxHeartbeats 4000000 in
theorem rfork_ok (r : Nat) (n e : Int) (ps : List Rw) (A : Option Addr) (c : Nat) (bad : Nat → Prop) (w : World) (h : IsR w r n e ps A c bad) (hlen : ps.length ≤ 1000) :
  Calls Try.prog 21 #[.pointer (some ⟨r, 0, none⟩)] w fun e_ w' => ∃ r2 A2 c2, e_ = .returned (.pointer (some ⟨r2, 0, none⟩)) ∧ w.heap.size ≤ r2 ∧ IsR w' r2 n e ps A2 c2 (fun b => bad b ∨ b = r2) ∧ Below w.heap.size w w' := by
 have H0 := Lib.hid h
 have r0 : w.cell? ⟨r, 0, none⟩ = some (I n) := by rw [cell_of h.tb]; rfl
 have r1 : w.cell? ⟨r, 1, none⟩ = some (I e) := by rw [cell_of h.tb]; rfl
 have r2 : w.cell? ⟨r, 2, none⟩ = some (.slice A ps.length c) := by rw [cell_of h.tb]; rfl
 clear h
 go_enter Try.func21, Try.ntmps21
 go_wp2_with fail
 refine start_ (n := 17) (S := fun w' => w'.cell? ⟨r, 0, none⟩ = some (I n) ∧ w'.cell? ⟨r, 1, none⟩ = some (I e) ∧ w'.cell? ⟨r, 2, none⟩ = some (.slice A ps.length c)) (ds := []) #[false,false,false,false,false,false,false,false,false,false,false,false,false,false,false,false,false] (by kernel_rfl) rfl rfl ⟨r0, r1, r2⟩ (fun hHeld => ?_)
 refine pure_ (i := 0) (N := some 5) (v := ?_) (a' := ?_) #[true,false,false,false,false,false,false,false,false,false,false,false,false,false,false,false,false] rfl rfl (by kernel_rfl) (fun _ _ _ h => h) (Or.inl ⟨by rfl, ?_⟩) ?_ ?_
 rotate_left
 ·intro w'
  go_simp
  with_reducible rfl
 rotate_left
 ·simp only [Act.put, List.setIfInBounds_toArray, List.set_cons_zero, List.set_cons_succ, i64_w, i32_w]
  rfl
 refine pure_ (i := 1) (N := some 6) (v := ?_) (a' := ?_) #[true,true,false,false,false,false,false,false,false,false,false,false,false,false,false,false,false] rfl rfl (by kernel_rfl) (fun _ _ _ h => h) (Or.inl ⟨by rfl, ?_⟩) ?_ ?_
 rotate_left
 ·intro w'
  go_simp
  with_reducible rfl
 rotate_left
 ·simp only [Act.put, List.setIfInBounds_toArray, List.set_cons_zero, List.set_cons_succ, i64_w, i32_w]
  rfl
 refine pure_ (i := 2) (N := some 7) (v := ?_) (a' := ?_) #[true,true,true,false,false,false,false,false,false,false,false,false,false,false,false,false,false] rfl rfl (by kernel_rfl) (fun _ _ _ h => h) (Or.inl ⟨by rfl, ?_⟩) ?_ ?_
 rotate_left
 ·intro w'
  go_simp
  with_reducible rfl
 rotate_left
 ·simp only [Act.put, List.setIfInBounds_toArray, List.set_cons_zero, List.set_cons_succ, i64_w, i32_w]
  rfl
 refine pure_ (i := 4) (N := some 9) (v := ?_) (a' := ?_) #[true,true,true,false,true,false,false,false,false,false,false,false,false,false,false,false,false] rfl rfl (by kernel_rfl) (fun _ _ _ h => h) (Or.inl ⟨by rfl, ?_⟩) ?_ ?_
 rotate_left
 ·intro w'
  go_simp
  with_reducible rfl
 rotate_left
 ·simp only [Act.put, List.setIfInBounds_toArray, List.set_cons_zero, List.set_cons_succ, i64_w, i32_w]
  rfl
 refine pure_ (i := 5) (N := some 10) (v := ?_) (a' := ?_) #[true,true,true,false,true,true,false,false,false,false,false,false,false,false,false,false,false] rfl rfl (by kernel_rfl) (fun _ _ _ h => h) (Or.inl ⟨by rfl, ?_⟩) ?_ ?_
 rotate_left
 ·intro w'
  go_simp
  with_reducible rfl
 rotate_left
 ·simp only [Act.put, List.setIfInBounds_toArray, List.set_cons_zero, List.set_cons_succ, i64_w, i32_w]
  rfl
 refine pure_ (i := 6) (N := some 11) (v := ?_) (a' := ?_) #[true,true,true,false,true,true,true,false,false,false,false,false,false,false,false,false,false] rfl rfl (by kernel_rfl) (fun _ _ _ h => h) (Or.inl ⟨by rfl, ?_⟩) ?_ ?_
 rotate_left
 ·intro w'
  go_simp
  with_reducible rfl
 rotate_left
 ·simp only [Act.put, List.setIfInBounds_toArray, List.set_cons_zero, List.set_cons_succ, i64_w, i32_w]
  rfl
 refine pure_ (i := 9) (N := some 14) (v := ?_) (a' := ?_) #[true,true,true,false,true,true,true,false,false,true,false,false,false,false,false,false,false] rfl rfl (by kernel_rfl) (fun _ _ _ h => h) (Or.inl ⟨by rfl, ?_⟩) ?_ ?_
 rotate_left
 ·intro w'
  go_simp
  with_reducible rfl
 rotate_left
 ·simp only [Act.put, List.setIfInBounds_toArray, List.set_cons_zero, List.set_cons_succ, i64_w, i32_w]
  rfl
 refine pure_ (i := 10) (N := some 15) (v := ?_) (a' := ?_) #[true,true,true,false,true,true,true,false,false,true,true,false,false,false,false,false,false] rfl rfl (by kernel_rfl) (fun _ _ _ h => h) (Or.inl ⟨by rfl, ?_⟩) ?_ ?_
 rotate_left
 ·intro w'
  go_simp
  with_reducible rfl
 rotate_left
 ·simp only [Act.put, List.setIfInBounds_toArray, List.set_cons_zero, List.set_cons_succ, i64_w, i32_w]
  rfl
 refine pure_ (i := 11) (N := some 16) (v := ?_) (a' := ?_) #[true,true,true,false,true,true,true,false,false,true,true,true,false,false,false,false,false] rfl rfl (by kernel_rfl) (fun _ _ _ h => h) (Or.inl ⟨by rfl, ?_⟩) ?_ ?_
 rotate_left
 ·intro w'
  go_simp
  with_reducible rfl
 rotate_left
 ·simp only [Act.put, List.setIfInBounds_toArray, List.set_cons_zero, List.set_cons_succ, i64_w, i32_w]
  rfl
 refine take_ (i := 3) (N := some 8) (v := ?_) (a' := ?_) #[true,true,true,true,true,true,true,false,false,true,true,true,false,false,false,false,false] rfl rfl (by kernel_rfl) (fun _ _ _ h => h) (Or.inl ⟨by rfl, ?_⟩) hHeld ?_ ?_
 rotate_left
 ·rintro w' ⟨s0, s1, s2⟩
  go_simp
  with_reducible rfl
 rotate_left
 ·simp only [Act.put, List.setIfInBounds_toArray, List.set_cons_zero, List.set_cons_succ, i64_w, i32_w]
  rfl
 refine take_ (i := 7) (N := some 12) (v := ?_) (a' := ?_) #[true,true,true,true,true,true,true,true,false,true,true,true,false,false,false,false,false] rfl rfl (by kernel_rfl) (fun _ _ _ h => h) (Or.inl ⟨by rfl, ?_⟩) hHeld ?_ ?_
 rotate_left
 ·rintro w' ⟨s0, s1, s2⟩
  go_simp
  with_reducible rfl
 rotate_left
 ·simp only [Act.put, List.setIfInBounds_toArray, List.set_cons_zero, List.set_cons_succ, i64_w, i32_w]
  rfl
 refine take_ (i := 12) (N := some 17) (v := ?_) (a' := ?_) #[true,true,true,true,true,true,true,true,false,true,true,true,true,false,false,false,false] rfl rfl (by kernel_rfl) (fun _ _ _ h => h) (Or.inl ⟨by rfl, ?_⟩) hHeld ?_ ?_
 rotate_left
 ·rintro w' ⟨s0, s1, s2⟩
  go_simp
  with_reducible rfl
 rotate_left
 ·simp only [Act.put, List.setIfInBounds_toArray, List.set_cons_zero, List.set_cons_succ, i64_w, i32_w]
  rfl
 refine one_ (i := 8) (N := some 13) #[true,true,true,true,true,true,true,true,true,true,true,true,true,false,false,false,false] rfl rfl (by kernel_rfl) (by decide) (fun K hK => ?_)
 refine row0_step (by rfl) rfl rfl ?_
 intro B1 zz1 hb1 hl1 hR1 hS1
 have hY1 : Below w.heap.size w zz1 := below_step (below_drew1 (Below.refl w.heap.size w)) hS1
 refine hK.out _ _ ⟨pw_cell_below hY1 r0, pw_cell_below hY1 r1, pw_cell_below hY1 r2⟩ (fun hHeld => ?_)
 clear hK K
 refine norm_ (a' := ?_) ?_ ?_
 rotate_left
 ·show Act.put _ (some 13) _ = _
  simp only [Act.put, List.setIfInBounds_toArray, List.set_cons_zero, List.set_cons_succ, i64_w, i32_w]
  rfl
 refine one_ (i := 13) (N := some 18) #[true,true,true,true,true,true,true,true,true,true,true,true,true,true,false,false,false] rfl rfl (by kernel_rfl) (by decide) (fun K hK => ?_)
 refine Kd.R_append_rows_step kR (Rr := E4) (w0 := w) w.heap.size (by rfl) (.tmp 13) (.tmp 17) 84 83 (.agg #[.string ⟨#[]⟩, .int .u8 0, .int .u8 0, .slice none 0 0]) 56 rfl Try.underlying84 info83 rfl (by decide) (by decide) (.slice (some ⟨B1, 0, none⟩) 0 0) [] ps A ps.length c (fun _ => True) (fun _ => False) rfl rfl (Kd.R_lower hR1 (below_drew1 (Below.refl w.heap.size w)).size) ((H0.out.below' hY1).reads hlen) ?aK (fun _ h => h.elim) (fun _ _ => trivial) hY1 hY1.size ?aL ?_
 (case aK => (intro z cs h; exact h))
 (case aL => (simp only [List.length_nil]; omega))
 intro v2 zz2 hV2 hY2 hG2 _
 rw [List.nil_append] at hV2
 obtain ⟨A2, c2, rfl⟩ := Kd.R_slice hV2
 refine hK.out _ _ ⟨pw_cell_below hY2 r0, pw_cell_below hY2 r1, pw_cell_below hY2 r2⟩ (fun hHeld => ?_)
 clear hK K
 refine norm_ (a' := ?_) ?_ ?_
 rotate_left
 ·show Act.put _ (some 18) _ = _
  simp only [Act.put, List.setIfInBounds_toArray, List.set_cons_zero, List.set_cons_succ, i64_w, i32_w]
  rfl
 refine pure_ (i := 14) (N := some 19) (v := ?_) (a' := ?_) #[true,true,true,true,true,true,true,true,true,true,true,true,true,true,true,false,false] rfl rfl (by kernel_rfl) (fun _ _ _ h => h) (Or.inl ⟨by rfl, ?_⟩) ?_ ?_
 rotate_left
 ·intro w'
  go_simp
  with_reducible rfl
 rotate_left
 ·simp only [Act.put, List.setIfInBounds_toArray, List.set_cons_zero, List.set_cons_succ, i64_w, i32_w]
  rfl
 refine one_ (i := 15) (N := some 20) #[true,true,true,true,true,true,true,true,true,true,true,true,true,true,true,true,false] rfl rfl (by kernel_rfl) (by decide) (fun K hK => ?_)
 refine value_ (w1 := ?_) (v := ?_) (by rfl) rfl ?_ ?_
 rotate_left 2
 ·go_simp
  constructor
  ·rfl
  ·rfl
 have hY3 : Below w.heap.size w (zz2.alloc (.cells #[I n, I e, .slice A2 ps.length c2] 86)) := below_alloc hY2 _
 refine hK.out _ _ ⟨pw_cell_below hY3 r0, pw_cell_below hY3 r1, pw_cell_below hY3 r2⟩ (fun hHeld => ?_)
 clear hK K
 refine norm_ (a' := ?_) ?_ ?_
 rotate_left
 ·show Act.put _ (some 20) _ = _
  simp only [Act.put, List.setIfInBounds_toArray, List.set_cons_zero, List.set_cons_succ, i64_w, i32_w]
  rfl
 refine pure_ (i := 16) (N := some 2) (v := ?_) (a' := ?_) #[true,true,true,true,true,true,true,true,true,true,true,true,true,true,true,true,true] rfl rfl (by kernel_rfl) (fun _ _ _ h => h) (Or.inl ⟨by rfl, ?_⟩) ?_ ?_
 rotate_left
 ·intro w'
  go_simp
  with_reducible rfl
 rotate_left
 ·simp only [Act.put, List.setIfInBounds_toArray, List.set_cons_zero, List.set_cons_succ, i64_w, i32_w]
  rfl
 refine done_ (by kernel_rfl) ?_
 go_wp2_with fail
 go_ret
 have h := H0.out
 have hown := R_rows hV2
 obtain ⟨A9, c9, e9, hc9, hrow, hfm⟩ := own_rowAt (bad := bad) hown (fun q => by rw [List.length_eq_zero_iff.1 q]; rfl) (fun b hb => h.lt b hb)
 injection e9 with e1 e2 e3
 subst e1; subst e3
 have hlt2 : ∀ b, b < zz2.heap.size → (bad b ∨ b = zz2.heap.size) → bad b := fun b hb q => q.elim id (fun z => by omega)
 have hal := below_alloc (Below.refl _ zz2) (.cells #[I n, I e, .slice A2 ps.length c2] 86)
 have hsz : (zz2.alloc (.cells #[I n, I e, .slice A2 ps.length c2] 86)).heap.size = zz2.heap.size + 1 := by simp
 refine ⟨zz2.heap.size, A2, c2, rfl, hY2.size, ⟨heap_alloc_new zz2 _, hc9, ?_, hrow.mono hal.size (fun b hb _ => hal.block b hb) hlt2, fun p hp => ?_, .inr rfl, fun b hb => ?_⟩, hY3⟩
 ·rcases hfm with ⟨q1, q2, q3⟩ | q
  ·exact .inl ⟨q1, List.length_eq_zero_iff.1 q2, q3⟩
  ·exact .inr q
 ·exact (((h.inn p hp).mono hY2.size (fun b hb _ => hY2.block b hb) (fun _ _ q => q)).mono hal.size (fun b hb _ => hal.block b hb) hlt2)
 ·rcases hb with q | q
  ·have := h.lt b q; have := hY2.size; omega
  ·omega
end Go.Proofs.Ytpcjppefopjngaa.C
