/- En, Eo, Re, Dc, Rd, Cl, Fo -/
import Derived.Test.YthmenclkgngkkaaJb
import Derived.Test.YthmenclkgngkkaaPAx7
import Derived.Test.YthmenclkgngkkaaLim
import Derived.Laws.Cover3
import Derived.Lib.SliceRun
section
/- Bytes of messages: words. -/
set_option linter.unusedSimpArgs false
set_option linter.unusedVariables false
namespace Go.Proofs.Ythmenclkgngkkaa.M
open Go.RowKit Go.Proofs.Ythmenclkgngkkaa.PA Go.Proofs.Ythmenclkgngkkaa.Dig Go.Proofs.YthmenclkgngkkaaW.PrintWords Go.Proofs.YthmenclkgngkkaaW.PrintMore Go.Proofs.YthmenclkgngkkaaW.PrintLast
theorem info5 : (Try.prog.info? 5).map (fun i => (i.zero, i.size, i.bytes)) = some (some (.int .u8 0), 1, 1) := by kernel_rfl
abbrev kb : Kd Int := Kd.int .u8
def enc (m : S26) : List Int := IntKind.u8.wrap m.f0 :: IntKind.u8.wrap m.f1 :: bl m.f2
def wi (m : S26) : Prop := 0 ≤ m.f0 ∧ m.f0 < 12 ∧ 0 ≤ m.f1 ∧ m.f1 < 6
instance (m : S26) : Decidable (wi m) := by unfold wi; infer_instance
theorem wi_f (m : S26) : mail_within.f m.f0 m.f1 m.f2 = some (decide (wi m)) := by
  unfold mail_within.f wi
  by_cases h0 : m.f0 ≥ 0 <;> by_cases h1 : m.f0 < 12 <;> by_cases h2 : m.f1 ≥ 0 <;> by_cases h3 : m.f1 < 6 <;> simp [h0, h1, h2, h3] <;> omega
theorem box2_step {ops : Array Oper} {Q : Exit → Act → World → Prop} {o : Oper} {N : Option Tmp} {a : Act} {w : World} {K : Act → World → Prop} (x y : Int) (q1 q2 : Nat) (hw : Region.wanted o (yielded ops a.tmps) = true) (hN : o.dst = N) (hg : o.guard = none) (hop : o.op = .buildSlice 28 2 #[(0, .tmp q1), (1, .tmp q2)]) (hx : a.tmps[q1]? = some (.int .u8 x)) (hy : a.tmps[q2]? = some (.int .u8 y))
    (h : ∀ B w', w.heap.size ≤ B → B < w'.heap.size → w'.heap[B]? = some (.cells #[.int .u8 x, .int .u8 y] 5 (0, 0)) → Below w.heap.size w w' → K (a.put N (.slice (some ⟨B, 0, none⟩) 2 2)) w') :
    if Region.wanted o (yielded ops a.tmps) = true then Oper.wp Try.prog o a w K Q else K (a.put N undef) w := by
  refine value_ (w1 := w.alloc (.cells #[.int .u8 x, .int .u8 y] 5)) (v := .slice (some ⟨w.heap.size, 0, none⟩) 2 2) hw hN ?_ (h _ _ (Nat.le_refl _) (by simp) (by show (w.heap.push _)[w.heap.size]? = _; simp) (below_alloc (Below.refl _ _) _))
  cases o
  simp only at hop
  subst hop
  go_simp
theorem box26_step {ops : Array Oper} {Q : Exit → Act → World → Prop} {o : Oper} {N : Option Tmp} {a : Act} {w : World} {K : Act → World → Prop} (x : S26) (q : Nat) (hw : Region.wanted o (yielded ops a.tmps) = true) (hN : o.dst = N) (hg : o.guard = none) (hop : o.op = .buildSlice 22 1 #[(0, .tmp q)]) (hx : a.tmps[q]? = some (.agg #[.int .i64 x.f0, .int .i64 x.f1, .int .i64 x.f2]))
    (h : ∀ B w', w.heap.size ≤ B → B < w'.heap.size → w'.heap[B]? = some (.cells #[.int .i64 x.f0, .int .i64 x.f1, .int .i64 x.f2] 26 (0, 0)) → Below w.heap.size w w' → K (a.put N (.slice (some ⟨B, 0, none⟩) 1 1)) w') :
    if Region.wanted o (yielded ops a.tmps) = true then Oper.wp Try.prog o a w K Q else K (a.put N undef) w := by
  refine value_ (w1 := w.alloc (.cells #[.int .i64 x.f0, .int .i64 x.f1, .int .i64 x.f2] 26)) (v := .slice (some ⟨w.heap.size, 0, none⟩) 1 1) hw hN ?_ (h _ _ (Nat.le_refl _) (by simp) (by show (w.heap.push _)[w.heap.size]? = _; simp) (below_alloc (Below.refl _ _) _))
  cases o
  simp only at hop
  subst hop
  go_simp
theorem box_reads {w : World} {b : Nat} {a : S26} (h : w.heap[b]? = some (.cells #[.int .i64 a.f0, .int .i64 a.f1, .int .i64 a.f2] 26 (0, 0))) : Kd.C k26 w (some ⟨b, 0, none⟩) 1 [a] := by
  refine ⟨rfl, by omega, fun _ => ⟨_, rfl, fun j p hj => ?_⟩⟩
  have hj0 : j = 0 := by
    have := (List.getElem?_eq_some_iff.1 hj).1
    simp at this; omega
  subst hj0
  have hp : p = a := by simpa using hj.symm
  subst hp
  refine ⟨_, rfl, k26_mk w p, fun i u hu => ?_⟩
  rw [add_plain, blk_cell h, Nat.zero_mul, Nat.zero_add]
  rw [← Array.getElem?_toList]
  exact hu
theorem arr_reads {w : World} {b t : Nat} {l : List Int} (h : w.heap[b]? = some (.cells (l.map (Value.int .u8)).toArray t (0, 0))) (hl : l.length ≤ maxLen) : Kd.C kb w (some ⟨b, 0, none⟩) l.length l := by
  refine ⟨rfl, by unfold maxLen at hl; omega, fun _ => ⟨_, rfl, fun j p hj => ?_⟩⟩
  have hj0 := (List.getElem?_eq_some_iff.1 hj).1
  refine ⟨[.int .u8 p], rfl, rfl, fun i u hu => ?_⟩
  obtain rfl : i = 0 := by
    have := (List.getElem?_eq_some_iff.1 hu).1
    simp at this; omega
  rw [add_plain, blk_cell h]
  simp at hu
  subst hu
  have e1 : j * kb.sz = j := by show j * 1 = j; omega
  simp [e1, hj]
end Go.Proofs.Ythmenclkgngkkaa.M
end
section
/- The walk of mail.Encode. -/
set_option linter.unusedSimpArgs false
set_option linter.unusedVariables false
set_option linter.unusedSimpArgs false
set_option linter.unusedVariables false
namespace Go.Proofs.Ythmenclkgngkkaa.M
open Go.RowKit Go.Proofs.Ythmenclkgngkkaa.PA Go.Proofs.Ythmenclkgngkkaa.Dig Go.Proofs.YthmenclkgngkkaaW.PrintWords Go.Proofs.YthmenclkgngkkaaW.PrintMore Go.Proofs.YthmenclkgngkkaaW.PrintLast
def mail_Encode.f (l : List S26) : Option (List Int × Int) := if (∀ m ∈ l, -9223372036854775808 ≤ m.f2 ∧ m.f2 ≤ 9223372036854775807) ∧ l.length ≤ 1000000000000 then (if ∀ m ∈ l, wi m then some (l.flatMap enc, 0) else some ([], 2)) else none
theorem enc_len (m : S26) : (enc m).length = 10 := rfl
theorem fl_len (l : List S26) : (l.flatMap enc).length = 10 * l.length := by
 induction l with
 | nil => rfl
 | cons m l ih => rw [List.flatMap_cons, List.length_append, ih, enc_len, List.length_cons]; omega
set_option maxRecDepth 100000 in
set_option maxHeartbeats 8000000 in
theorem mail_Encode.calls (A0 : Option Addr) (c0 : Nat) (l0 : List S26) (r1 : List Int) (r2 : Int) (w : World) (hr0 : Kd.C k26 w A0 l0.length l0) (hc0 : l0.length ≤ c0) (h : mail_Encode.f l0 = some (r1, r2)) :
  Calls Try.prog 11 #[.slice A0 l0.length c0] w fun e w' => ∃ v0_ : Value, e = .returned (.tuple #[v0_, .int .i64 r2]) ∧ Kd.R kb 5 w' w.heap.size (fun _ => True) v0_ r1 ∧ Below w.heap.size w w' := by
 unfold mail_Encode.f at h
 split at h
 ·rename_i hq
  obtain ⟨hwf, hll⟩ := hq
  have HF := Lib.hid h
  have HR := Lib.hid hr0
  have HW := Lib.hid hwf
  clear h hr0 hwf
  go_enter Try.func11, Try.ntmps11
  go_wp2
  go_loopw [4, 10] (fun v4 v10 wr => ∃ i : Nat, i ≤ l0.length ∧ v10 = .int .i64 i ∧ (∀ m ∈ l0.take i, wi m) ∧ Kd.R kb 5 wr w.heap.size (fun _ => True) v4 ((l0.take i).flatMap enc) ∧ Below w.heap.size w wr) (fun _ v10 _ => l0.length - (intOf v10).toNat)
  case atStart => exact ⟨0, Nat.zero_le _, rfl, by simp, by simpa using Kd.R_nil _ _ _ _ _, Below.refl _ _⟩
  case round =>
   obtain ⟨i, hi, rfl, hwi, hR, hb⟩ := hrel
   have HWI := Lib.hid hwi
   have HO := Lib.hid hR
   have HB := Lib.hid hb
   clear hwi hR hb
   by_cases hlt : i < l0.length
   ·have di : decide ((i : Int) < (l0.length : Int)) = true := decide_eq_true (by omega)
    obtain ⟨ad, e, q0, q1, q2⟩ := at_T26 HR.out i (by omega) (by omega)
    subst e
    replace q0 := (HB.out.cell (World.block_lt_of_cell? w _ q0)).trans q0
    replace q1 := (HB.out.cell (World.block_lt_of_cell? w _ q1)).trans q1
    replace q2 := (HB.out.cell (World.block_lt_of_cell? w _ q2)).trans q2
    rw [show rd_T26 l0 i = l0[i] by simp [rd_T26, List.getD, List.getElem?_eq_getElem hlt]] at q0 q1 q2
    rw [show ((i : Int)).toNat = i by simp] at q0 q1 q2
    obtain ⟨x, hx⟩ : ∃ x, x = l0[i] := ⟨_, rfl⟩
    have hxr := HW.out _ (List.getElem_mem hlt)
    rw [← hx] at q0 q1 q2 hxr
    have htk : l0.take (i + 1) = l0.take i ++ [x] := by rw [List.take_succ_eq_append_getElem hlt, hx]
    have HTK := Lib.hid htk
    have HXM := Lib.hid (show x ∈ l0 by rw [hx]; exact List.getElem_mem hlt)
    clear hx htk
    by_cases hw : wi x
    ·have hf : mail_within.f x.f0 x.f1 x.f2 = some true := by rw [wi_f, decide_eq_true hw]
     have HF0 := Lib.hid hf
     have HXR := Lib.hid hxr
     have HWX := Lib.hid hw
     clear hf hxr hw
     go_wp2_with fail
     with_reducible refine (mail_within.calls _ _ _ _ _ HF0.out).mono ?_
     rintro e w1 ⟨rfl, hb1⟩
     have HB1 := Lib.hid (below_step (below_alloc HB.out _) hb1)
     have HO1 := Lib.hid (Kd.R_below (Kd.R_alloc HO.out _) hb1)
     have hlen1 : wr.heap.size < w1.heap.size := by have := hb1.size; simp at this; omega
     have pb : w1.heap[wr.heap.size]? = some (.cells #[.int .i64 x.f0, .int .i64 x.f1, .int .i64 x.f2] 26 (0, 0)) := (hb1.block _ (by simp)).trans (by show (wr.heap.push _)[wr.heap.size]? = _; simp)
     have p0 : w1.cell? ⟨wr.heap.size, 0, none⟩ = some (.int .i64 x.f0) := by rw [blk_cell pb]; rfl
     have p1 : w1.cell? ⟨wr.heap.size, 1, none⟩ = some (.int .i64 x.f1) := by rw [blk_cell pb]; rfl
     have p2 : w1.cell? ⟨wr.heap.size, 2, none⟩ = some (.int .i64 x.f2) := by rw [blk_cell pb]; rfl
     have hgl : w.heap.size ≤ wr.heap.size := HB.out.size
     clear HB HO hb1
     obtain ⟨bm, hbm⟩ : ∃ bm, bm = wr.heap.size := ⟨_, rfl⟩
     rw [← hbm] at pb p0 p1 p2 hlen1 hgl ⊢
     have HBM := Lib.hid hbm
     have HPB := Lib.hid pb
     clear hbm pb
     go_wp2_with fail
     with_reducible refine (nbytes_ok _ _ HXR.out.1 HXR.out.2).mono ?_
     rintro e w2 ⟨rfl, hb2⟩
     have HB2 := Lib.hid (below_step HB1.out hb2)
     have HO2 := Lib.hid (Kd.R_below HO1.out hb2)
     have pb2 := (hb2.block _ (by exact hlen1)).trans HPB.out
     have hlen2 : bm < w2.heap.size := by have := hb2.size; omega
     clear HPB p0 p1 p2 HB1 HO1 hlen1 hb2
     unfold agg8
     go_wp2_with fail
     have hpa : (w2.alloc (.cells #[.int .u8 (byt x.f2 0), .int .u8 (byt x.f2 1), .int .u8 (byt x.f2 2), .int .u8 (byt x.f2 3), .int .u8 (byt x.f2 4), .int .u8 (byt x.f2 5), .int .u8 (byt x.f2 6), .int .u8 (byt x.f2 7)] 63)).heap[w2.heap.size]? = some (.cells ((bl x.f2).map (Value.int .u8)).toArray 63 (0, 0)) := by show (w2.heap.push _)[w2.heap.size]? = _; simp [bl]
     have HB3 := Lib.hid (below_alloc HB2.out (.cells #[.int .u8 (byt x.f2 0), .int .u8 (byt x.f2 1), .int .u8 (byt x.f2 2), .int .u8 (byt x.f2 3), .int .u8 (byt x.f2 4), .int .u8 (byt x.f2 5), .int .u8 (byt x.f2 6), .int .u8 (byt x.f2 7)] 63))
     have HO3 := Lib.hid (Kd.R_alloc HO2.out (.cells #[.int .u8 (byt x.f2 0), .int .u8 (byt x.f2 1), .int .u8 (byt x.f2 2), .int .u8 (byt x.f2 3), .int .u8 (byt x.f2 4), .int .u8 (byt x.f2 5), .int .u8 (byt x.f2 6), .int .u8 (byt x.f2 7)] 63))
     have pb3 := ((below_alloc (Below.refl w2.heap.size w2) (.cells #[.int .u8 (byt x.f2 0), .int .u8 (byt x.f2 1), .int .u8 (byt x.f2 2), .int .u8 (byt x.f2 3), .int .u8 (byt x.f2 4), .int .u8 (byt x.f2 5), .int .u8 (byt x.f2 6), .int .u8 (byt x.f2 7)] 63)).block _ hlen2).trans pb2
     have hlen3 : w2.heap.size < (w2.alloc (.cells #[.int .u8 (byt x.f2 0), .int .u8 (byt x.f2 1), .int .u8 (byt x.f2 2), .int .u8 (byt x.f2 3), .int .u8 (byt x.f2 4), .int .u8 (byt x.f2 5), .int .u8 (byt x.f2 6), .int .u8 (byt x.f2 7)] 63)).heap.size := by simp
     generalize w2.alloc (.cells #[.int .u8 (byt x.f2 0), .int .u8 (byt x.f2 1), .int .u8 (byt x.f2 2), .int .u8 (byt x.f2 3), .int .u8 (byt x.f2 4), .int .u8 (byt x.f2 5), .int .u8 (byt x.f2 6), .int .u8 (byt x.f2 7)] 63) = w3 at hpa HB3 HO3 pb3 hlen3 ⊢
     have p0 : w3.cell? ⟨bm, 0, none⟩ = some (.int .i64 x.f0) := by rw [blk_cell pb3]; rfl
     have p1 : w3.cell? ⟨bm, 1, none⟩ = some (.int .i64 x.f1) := by rw [blk_cell pb3]; rfl
     clear pb2 pb3
     go_wp2_with fail
     refine start_ (n := 12) (S := fun w' => w'.cell? ⟨bm, 0, none⟩ = some (.int .i64 x.f0) ∧ w'.cell? ⟨bm, 1, none⟩ = some (.int .i64 x.f1)) (ds := [7, 8, 10]) #[false,false,false,false,false,false,false,false,false,false,false,false] (by kernel_rfl) rfl rfl ⟨p0, p1⟩ (fun hHeld => ?_)
     refine pure_ (i := 0) (N := some 20) (v := ?_) (a' := ?_) #[true,false,false,false,false,false,false,false,false,false,false,false] rfl rfl (by kernel_rfl) (fun _ _ _ h => h) (Or.inl ⟨by rfl, ?_⟩) ?_ ?_
     rotate_left
     ·intro w'
      go_simp
      with_reducible rfl
     rotate_left
     ·simp only [Act.put, List.setIfInBounds_toArray, List.set_cons_zero, List.set_cons_succ, i64_w, i32_w]
      rfl
     refine pure_ (i := 1) (N := some 21) (v := ?_) (a' := ?_) #[true,true,false,false,false,false,false,false,false,false,false,false] rfl rfl (by kernel_rfl) (fun _ _ _ h => h) (Or.inl ⟨by rfl, ?_⟩) ?_ ?_
     rotate_left
     ·intro w'
      go_simp
      with_reducible rfl
     rotate_left
     ·simp only [Act.put, List.setIfInBounds_toArray, List.set_cons_zero, List.set_cons_succ, i64_w, i32_w]
      rfl
     refine pure_ (i := 4) (N := some 24) (v := ?_) (a' := ?_) #[true,true,false,false,true,false,false,false,false,false,false,false] rfl rfl (by kernel_rfl) (fun _ _ _ h => h) (Or.inl ⟨by rfl, ?_⟩) ?_ ?_
     rotate_left
     ·intro w'
      go_simp
      with_reducible rfl
     rotate_left
     ·simp only [Act.put, List.setIfInBounds_toArray, List.set_cons_zero, List.set_cons_succ, i64_w, i32_w]
      rfl
     refine pure_ (i := 9) (N := some 29) (v := ?_) (a' := ?_) #[true,true,false,false,true,false,false,false,false,true,false,false] rfl rfl (by kernel_rfl) (fun _ _ _ h => h) (Or.inl ⟨by rfl, ?_⟩) ?_ ?_
     rotate_left
     ·intro w'
      go_simp
      with_reducible rfl
     rotate_left
     ·simp only [Act.put, List.setIfInBounds_toArray, List.set_cons_zero, List.set_cons_succ, i64_w, i32_w]
      rfl
     refine take_ (i := 2) (N := some 22) (v := ?_) (a' := ?_) #[true,true,true,false,true,false,false,false,false,true,false,false] rfl rfl (by kernel_rfl) (fun _ _ _ h => h) (Or.inl ⟨by rfl, ?_⟩) hHeld ?_ ?_
     rotate_left
     ·rintro w' ⟨s0, s1⟩
      go_simp
      with_reducible rfl
     rotate_left
     ·simp only [Act.put, List.setIfInBounds_toArray, List.set_cons_zero, List.set_cons_succ, i64_w, i32_w]
      rfl
     refine pure_ (i := 3) (N := some 23) (v := ?_) (a' := ?_) #[true,true,true,true,true,false,false,false,false,true,false,false] rfl rfl (by kernel_rfl) (fun _ _ _ h => h) (Or.inl ⟨by rfl, ?_⟩) ?_ ?_
     rotate_left
     ·intro w'
      go_simp
      with_reducible rfl
     rotate_left
     ·simp only [Act.put, List.setIfInBounds_toArray, List.set_cons_zero, List.set_cons_succ, i64_w, i32_w]
      rfl
     refine take_ (i := 5) (N := some 25) (v := ?_) (a' := ?_) #[true,true,true,true,true,true,false,false,false,true,false,false] rfl rfl (by kernel_rfl) (fun _ _ _ h => h) (Or.inl ⟨by rfl, ?_⟩) hHeld ?_ ?_
     rotate_left
     ·rintro w' ⟨s0, s1⟩
      go_simp
      with_reducible rfl
     rotate_left
     ·simp only [Act.put, List.setIfInBounds_toArray, List.set_cons_zero, List.set_cons_succ, i64_w, i32_w]
      rfl
     refine pure_ (i := 6) (N := some 26) (v := ?_) (a' := ?_) #[true,true,true,true,true,true,true,false,false,true,false,false] rfl rfl (by kernel_rfl) (fun _ _ _ h => h) (Or.inl ⟨by rfl, ?_⟩) ?_ ?_
     rotate_left
     ·intro w'
      go_simp
      with_reducible rfl
     rotate_left
     ·simp only [Act.put, List.setIfInBounds_toArray, List.set_cons_zero, List.set_cons_succ, i64_w, i32_w]
      rfl
     refine last_ (i := 7) (N := some 27) #[true,true,true,true,true,true,true,true,false,true,false,false] rfl rfl (by kernel_rfl) (by decide) (fun K hK => ?_)
     refine box2_step (IntKind.u8.wrap x.f0) (IntKind.u8.wrap x.f1) 23 26 (by rfl) rfl rfl rfl rfl rfl ?_
     intro B7 y7 hb7 hl7 hX7 hS7
     have hZ7 : Below w.heap.size w y7 := below_step (below_drew1 HB3.out) hS7
     have hA7 := (hS7.block _ (by exact hlen3)).trans (show w3.drew.heap[w2.heap.size]? = _ from hpa)
     refine hK.out _ _ ?_
     clear hK K
     refine norm_ (a' := ?_) ?_ ?_
     rotate_left
     ·show Act.put _ (some 27) _ = _
      simp only [Act.put, List.setIfInBounds_toArray, List.set_cons_zero, List.set_cons_succ, i64_w, i32_w]
      rfl
     refine last_ (i := 8) (N := some 28) #[true,true,true,true,true,true,true,true,true,true,false,false] rfl rfl (by kernel_rfl) (by decide) (fun K hK => ?_)
     refine Kd.R_append_rows_step kb (Rr := Kd.K kb y7) (w0 := w) w.heap.size (by rfl) (.tmp 20) (.tmp 27) 28 5 (.int .u8 0) 1 rfl Try.underlying28 info5 rfl (by decide) (by decide) u4 ((l0.take i).flatMap enc) [IntKind.u8.wrap x.f0, IntKind.u8.wrap x.f1] (some ⟨B7, 0, none⟩) 2 2 (fun _ => True) (fun _ => False) rfl rfl (Kd.R_below (Kd.R_drew HO3.out) hS7) (arr_reads (l := [IntKind.u8.wrap x.f0, IntKind.u8.wrap x.f1]) hX7 (by simp [maxLen])) ?aK (fun _ h => h.elim) (fun _ _ => trivial) hZ7 hZ7.size ?aL ?_
     (case aK => (intro z cs h; rw [h]; exact rfl))
     (case aL => (have hfl := fl_len (l0.take i); simp only [List.length_append, List.length_take, List.length_cons, List.length_nil, hfl]; omega))
     intro v8 y8 hV8 hZ8 hG8 _
     have hA8 := (hG8.block _ (Nat.lt_of_lt_of_le hlen3 hS7.size) (Kd.R_ne (Kd.R_below (Kd.R_drew HO3.out) hS7) hA7 (by decide))).trans hA7
     refine hK.out _ _ ?_
     clear hK K
     refine norm_ (a' := ?_) ?_ ?_
     rotate_left
     ·show Act.put _ (some 28) _ = _
      simp only [Act.put, List.setIfInBounds_toArray, List.set_cons_zero, List.set_cons_succ, i64_w, i32_w]
      rfl
     refine last_ (i := 10) (N := some 30) #[true,true,true,true,true,true,true,true,true,true,true,false] rfl rfl (by kernel_rfl) (by decide) (fun K hK => ?_)
     refine Kd.R_append_rows_step kb (Rr := Kd.K kb y8) (w0 := w) w.heap.size (by rfl) (.tmp 28) (.tmp 29) 28 5 (.int .u8 0) 1 rfl Try.underlying28 info5 rfl (by decide) (by decide) v8 ((l0.take i).flatMap enc ++ [IntKind.u8.wrap x.f0, IntKind.u8.wrap x.f1]) (bl x.f2) (some ⟨w2.heap.size, 0, none⟩) 8 8 (fun _ => True) (fun _ => False) rfl rfl hV8 (arr_reads (l := bl x.f2) hA8 (by simp [bl, maxLen])) ?aK (fun _ h => h.elim) (fun _ _ => trivial) hZ8 hZ8.size ?aL ?_
     (case aK => (intro z cs h; rw [h]; exact rfl))
     (case aL => (have hfl := fl_len (l0.take i); simp only [List.length_append, List.length_take, List.length_cons, List.length_nil, hfl]; omega))
     intro v10 y10 hV10 hZ10 hG10 _
     refine hK.out _ _ ?_
     clear hK K
     refine norm_ (a' := ?_) ?_ ?_
     rotate_left
     ·show Act.put _ (some 30) _ = _
      simp only [Act.put, List.setIfInBounds_toArray, List.set_cons_zero, List.set_cons_succ, i64_w, i32_w]
      rfl
     refine pure_ (i := 11) (N := some 4) (v := ?_) (a' := ?_) #[true,true,true,true,true,true,true,true,true,true,true,true] rfl rfl (by kernel_rfl) (fun _ _ _ h => h) (Or.inl ⟨by rfl, ?_⟩) ?_ ?_
     rotate_left
     ·intro w'
      go_simp
      with_reducible rfl
     rotate_left
     ·simp only [Act.put, List.setIfInBounds_toArray, List.set_cons_zero, List.set_cons_succ, i64_w, i32_w]
      rfl
     refine done_ (by kernel_rfl) ?_
     have hV := hV10
     rw [List.append_assoc, show [IntKind.u8.wrap x.f0, IntKind.u8.wrap x.f1] ++ bl x.f2 = enc x from rfl, show (l0.take i).flatMap enc ++ enc x = (l0.take (i + 1)).flatMap enc by rw [HTK.out, List.flatMap_append]; simp] at hV
     have HV := Lib.hid hV
     have HZ := Lib.hid hZ10
     clear hV10 hV hZ10 hG10 hA8 hG8 hV8 hZ8 hA7 hZ7 hS7 hX7 hHeld
     go_wp2_with fail
     exact ⟨⟨i + 1, by omega, by go_num, (by rw [HTK.out]; intro m hm; rcases List.mem_append.1 hm with h | h; exact HWI.out m h; rw [List.mem_singleton.1 h]; exact HWX.out), HV.out, HZ.out⟩, by simp [intOf]; omega⟩
    ·have hf : mail_within.f x.f0 x.f1 x.f2 = some false := by rw [wi_f, decide_eq_false hw]
     have hno : ¬ ∀ m ∈ l0, wi m := fun h => hw (h x HXM.out)
     have hres := HF.out
     rw [if_neg hno] at hres
     injection hres with hres
     injection hres with e1 e2
     subst e1; subst e2
     have HF0 := Lib.hid hf
     clear hf hxr hw hno HF
     go_wp2_with fail
     with_reducible refine (mail_within.calls _ _ _ _ _ HF0.out).mono ?_
     rintro e w1 ⟨rfl, hb1⟩
     have HB1 := Lib.hid (below_step (below_alloc HB.out _) hb1)
     clear hb1
     go_wp2
     go_ret2
     exact ⟨_, rfl, Kd.R_nil _ _ _ _ _, HB1.out⟩
   ·have di : decide ((i : Int) < (l0.length : Int)) = false := decide_eq_false (by omega)
    obtain rfl : i = l0.length := by omega
    have hres := HF.out
    have hwi := HWI.out
    have hO := HO.out
    rw [List.take_length] at hwi hO
    rw [if_pos hwi] at hres
    injection hres with hres
    injection hres with e1 e2
    subst e1; subst e2
    have HO2 := Lib.hid hO
    clear HF HO HWI hO hwi
    go_wp2
    go_ret2
    exact ⟨_, rfl, HO2.out, HB.out⟩
 ·cases h
end Go.Proofs.Ythmenclkgngkkaa.M
end
section
/- The walk of the reference's Encode. -/
set_option linter.unusedSimpArgs false
set_option linter.unusedVariables false
set_option linter.unusedSimpArgs false
set_option linter.unusedVariables false
namespace Go.Proofs.Ythmenclkgngkkaa.M
open Go.RowKit Go.Proofs.Ythmenclkgngkkaa.PA Go.Proofs.Ythmenclkgngkkaa.Dig Go.Proofs.YthmenclkgngkkaaW.PrintWords Go.Proofs.YthmenclkgngkkaaW.PrintMore Go.Proofs.YthmenclkgngkkaaW.PrintLast
theorem msg_at {w : World} {A : Option Addr} {l : List S26} (h : Kd.C k26 w A l.length l) {i : Nat} (hi : i < l.length) : ∃ ad, A = some ad ∧ w.cell? (ad.add (i * 3)) = some (.int .i64 l[i].f0) ∧ w.cell? ⟨(ad.add (i * 3)).block, (ad.add (i * 3)).off + 1, none⟩ = some (.int .i64 l[i].f1) ∧ w.cell? ⟨(ad.add (i * 3)).block, (ad.add (i * 3)).off + 2, none⟩ = some (.int .i64 l[i].f2) := by
 obtain ⟨ad, e, q0, q1, q2⟩ := at_T26 h i (by omega) (by omega)
 rw [show rd_T26 l i = l[i] by simp [rd_T26, List.getD, List.getElem?_eq_getElem hi]] at q0 q1 q2
 rw [show ((i : Int)).toNat = i by simp] at q0 q1 q2
 exact ⟨ad, e, q0, q1, q2⟩
set_option maxRecDepth 100000 in
set_option maxHeartbeats 8000000 in
theorem reticuleref21_Encode.calls (A0 : Option Addr) (c0 : Nat) (l0 : List S26) (r1 : List Int) (r2 : Int) (w : World) (hr0 : Kd.C k26 w A0 l0.length l0) (hc0 : l0.length ≤ c0) (h : mail_Encode.f l0 = some (r1, r2)) :
  Calls Try.prog 23 #[.slice A0 l0.length c0] w fun e w' => ∃ v0_ : Value, e = .returned (.tuple #[v0_, .int .i64 r2]) ∧ Kd.R kb 5 w' w.heap.size (fun _ => True) v0_ r1 ∧ Below w.heap.size w w' := by
 unfold mail_Encode.f at h
 split at h
 ·rename_i hq
  obtain ⟨hwf, hll⟩ := hq
  have HF := Lib.hid h
  have HR := Lib.hid hr0
  have HW := Lib.hid hwf
  clear h hr0 hwf
  go_enter Try.func23, Try.ntmps23
  go_wp2
  go_loopw [4] (fun v4 wr => ∃ i : Nat, i ≤ l0.length ∧ v4 = .int .i64 i ∧ (∀ m ∈ l0.take i, wi m) ∧ Below w.heap.size w wr) (fun v4 _ => l0.length - (intOf v4).toNat)
  case atStart => exact ⟨0, Nat.zero_le _, rfl, by simp, Below.refl _ _⟩
  case round =>
   obtain ⟨i, hi, rfl, hwi, hb⟩ := hrel
   have HWI := Lib.hid hwi
   have HB := Lib.hid hb
   clear hwi hb
   by_cases hlt : i < l0.length
   ·have di : decide ((i : Int) < (l0.length : Int)) = true := decide_eq_true (by omega)
    obtain ⟨ad, e, q0, q1, q2⟩ := msg_at HR.out hlt
    subst e
    replace q0 := (HB.out.cell (World.block_lt_of_cell? w _ q0)).trans q0
    replace q1 := (HB.out.cell (World.block_lt_of_cell? w _ q1)).trans q1
    clear q2
    obtain ⟨x, hx⟩ : ∃ x, x = l0[i] := ⟨_, rfl⟩
    rw [← hx] at q0 q1
    have htk : l0.take (i + 1) = l0.take i ++ [x] := by rw [List.take_succ_eq_append_getElem hlt, hx]
    have HTK := Lib.hid htk
    have HXM := Lib.hid (show x ∈ l0 by rw [hx]; exact List.getElem_mem hlt)
    clear hx htk
    have hbad : ¬ wi x → r1 = [] ∧ r2 = 2 := fun hw => by
     have hno : ¬ ∀ m ∈ l0, wi m := fun h => hw (h x HXM.out)
     have hres := HF.out
     rw [if_neg hno] at hres
     injection hres with hres
     injection hres with e1 e2
     exact ⟨e1.symm, e2.symm⟩
    by_cases h1 : x.f0 < 0
    ·have d1 : decide (x.f0 < 0) = true := decide_eq_true h1
     obtain ⟨rfl, rfl⟩ := hbad (fun h => by unfold wi at h; omega)
     clear h1 HF
     go_wp2
     go_ret2
     exact ⟨_, rfl, Kd.R_nil _ _ _ _ _, HB.out⟩
    ·have d1 : decide (x.f0 < 0) = false := decide_eq_false h1
     by_cases h2 : 12 ≤ x.f0
     ·have d2 : decide (12 ≤ x.f0) = true := decide_eq_true h2
      obtain ⟨rfl, rfl⟩ := hbad (fun h => by unfold wi at h; omega)
      clear h1 h2 HF
      go_wp2
      go_ret2
      exact ⟨_, rfl, Kd.R_nil _ _ _ _ _, HB.out⟩
     ·have d2 : decide (12 ≤ x.f0) = false := decide_eq_false h2
      by_cases h3 : x.f1 < 0
      ·have d3 : decide (x.f1 < 0) = true := decide_eq_true h3
       obtain ⟨rfl, rfl⟩ := hbad (fun h => by unfold wi at h; omega)
       clear h1 h2 h3 HF
       go_wp2
       go_ret2
       exact ⟨_, rfl, Kd.R_nil _ _ _ _ _, HB.out⟩
      ·have d3 : decide (x.f1 < 0) = false := decide_eq_false h3
       by_cases h4 : 6 ≤ x.f1
       ·have d4 : decide (6 ≤ x.f1) = true := decide_eq_true h4
        obtain ⟨rfl, rfl⟩ := hbad (fun h => by unfold wi at h; omega)
        clear h1 h2 h3 h4 HF
        go_wp2
        go_ret2
        exact ⟨_, rfl, Kd.R_nil _ _ _ _ _, HB.out⟩
       ·have d4 : decide (6 ≤ x.f1) = false := decide_eq_false h4
        have HWX := Lib.hid (show wi x by unfold wi; omega)
        clear h1 h2 h3 h4 hbad
        go_wp2
        exact ⟨⟨i + 1, by omega, by go_num, (by rw [HTK.out]; intro m hm; rcases List.mem_append.1 hm with h | h; exact HWI.out m h; rw [List.mem_singleton.1 h]; exact HWX.out), HB.out⟩, by simp [intOf]; omega⟩
   ·have di : decide ((i : Int) < (l0.length : Int)) = false := decide_eq_false (by omega)
    obtain rfl : i = l0.length := by omega
    have hres := HF.out
    have hwi := HWI.out
    rw [List.take_length] at hwi
    rw [if_pos hwi] at hres
    injection hres with hres
    injection hres with e1 e2
    subst e1; subst e2
    clear HF HWI hwi
    go_wp2_with fail
    go_loopw [5, 6] (fun v5 v6 wq => ∃ i : Nat, i ≤ l0.length ∧ v6 = .int .i64 i ∧ Kd.R kb 5 wq w.heap.size (fun _ => True) v5 ((l0.take i).flatMap enc) ∧ Below w.heap.size w wq) (fun _ v6 _ => l0.length - (intOf v6).toNat)
    case atStart => exact ⟨0, Nat.zero_le _, rfl, by simpa using Kd.R_nil _ _ _ _ _, HB.out⟩
    case round =>
     clear HB di hlt hi
     obtain ⟨i, hi, rfl, hO, hb⟩ := hrel
     have HB := Lib.hid hb
     have HO := Lib.hid hO
     clear hb hO
     by_cases hlt : i < l0.length
     ·have di : decide ((i : Int) < (l0.length : Int)) = true := decide_eq_true (by omega)
      have di1 : ((i : Int) < (l0.length : Int)) = True := eq_true (by omega)
      have di2 : (i < l0.length) = True := eq_true hlt
      have di0 : (0 ≤ (i : Int)) = True := eq_true (by omega)
      obtain ⟨ad, e, q0, q1, q2⟩ := msg_at HR.out hlt
      subst e
      replace q0 := (HB.out.cell (World.block_lt_of_cell? w _ q0)).trans q0
      replace q1 := (HB.out.cell (World.block_lt_of_cell? w _ q1)).trans q1
      replace q2 := (HB.out.cell (World.block_lt_of_cell? w _ q2)).trans q2
      obtain ⟨x, hx⟩ : ∃ x, x = l0[i] := ⟨_, rfl⟩
      have hxr := HW.out _ (List.getElem_mem hlt)
      rw [← hx] at q0 q1 q2 hxr
      have htk : l0.take (i + 1) = l0.take i ++ [x] := by rw [List.take_succ_eq_append_getElem hlt, hx]
      have HTK := Lib.hid htk
      have hbd := World.block_lt_of_cell? _ _ q0
      have HXR := Lib.hid hxr
      clear hx htk hxr
      go_wp2_with fail
      with_reducible refine (rbytes_ok _ _ HXR.out.1 HXR.out.2).mono ?_
      rintro e w2 ⟨rfl, hb2⟩
      have HB2 := Lib.hid (below_step HB.out hb2)
      have HO2 := Lib.hid (Kd.R_below HO.out hb2)
      replace q0 := (hb2.cell (World.block_lt_of_cell? _ _ q0)).trans q0
      replace q1 := (hb2.cell (World.block_lt_of_cell? _ _ q1)).trans q1
      clear HB HO hb2 q2 hbd
      unfold agg8
      go_wp2_with fail
      have hpa : (w2.alloc (.cells #[.int .u8 (byt x.f2 0), .int .u8 (byt x.f2 1), .int .u8 (byt x.f2 2), .int .u8 (byt x.f2 3), .int .u8 (byt x.f2 4), .int .u8 (byt x.f2 5), .int .u8 (byt x.f2 6), .int .u8 (byt x.f2 7)] 63)).heap[w2.heap.size]? = some (.cells ((bl x.f2).map (Value.int .u8)).toArray 63 (0, 0)) := by show (w2.heap.push _)[w2.heap.size]? = _; simp [bl]
      have hba := below_alloc (Below.refl w2.heap.size w2) (.cells #[.int .u8 (byt x.f2 0), .int .u8 (byt x.f2 1), .int .u8 (byt x.f2 2), .int .u8 (byt x.f2 3), .int .u8 (byt x.f2 4), .int .u8 (byt x.f2 5), .int .u8 (byt x.f2 6), .int .u8 (byt x.f2 7)] 63)
      have HB3 := Lib.hid (below_step HB2.out hba)
      have HO3 := Lib.hid (Kd.R_below HO2.out hba)
      replace q0 := (hba.cell (World.block_lt_of_cell? _ _ q0)).trans q0
      replace q1 := (hba.cell (World.block_lt_of_cell? _ _ q1)).trans q1
      have hlen3 : w2.heap.size < (w2.alloc (.cells #[.int .u8 (byt x.f2 0), .int .u8 (byt x.f2 1), .int .u8 (byt x.f2 2), .int .u8 (byt x.f2 3), .int .u8 (byt x.f2 4), .int .u8 (byt x.f2 5), .int .u8 (byt x.f2 6), .int .u8 (byt x.f2 7)] 63)).heap.size := by simp
      have hge : w.heap.size ≤ w2.heap.size := HB2.out.size
      clear hba HB2 HO2
      generalize w2.alloc (.cells #[.int .u8 (byt x.f2 0), .int .u8 (byt x.f2 1), .int .u8 (byt x.f2 2), .int .u8 (byt x.f2 3), .int .u8 (byt x.f2 4), .int .u8 (byt x.f2 5), .int .u8 (byt x.f2 6), .int .u8 (byt x.f2 7)] 63) = w3 at hpa HB3 HO3 q0 q1 hlen3 ⊢
      obtain ⟨bm, hbm⟩ : ∃ bm, bm = w2.heap.size := ⟨_, rfl⟩
      rw [← hbm] at hpa hlen3 hge ⊢
      clear hbm
      have HPA := Lib.hid hpa
      clear hpa
      go_wp2_with fail
      refine start_ (n := 16) (S := fun w' => w'.cell? (ad.add (i * 3)) = some (.int .i64 x.f0) ∧ w'.cell? ⟨(ad.add (i * 3)).block, (ad.add (i * 3)).off + 1, none⟩ = some (.int .i64 x.f1)) (ds := [13, 14]) #[false,false,false,false,false,false,false,false,false,false,false,false,false,false,false,false] (by kernel_rfl) rfl rfl ⟨q0, q1⟩ (fun hHeld => ?_)
      refine pure_ (i := 0) (N := some 57) (v := ?_) (a' := ?_) #[true,false,false,false,false,false,false,false,false,false,false,false,false,false,false,false] rfl rfl (by kernel_rfl) (fun _ _ _ h => h) (Or.inl ⟨by rfl, ?_⟩) ?_ ?_
      rotate_left
      ·intro w'
       go_simp
       with_reducible rfl
      rotate_left
      ·simp only [Act.put, List.setIfInBounds_toArray, List.set_cons_zero, List.set_cons_succ, i64_w, i32_w]
       rfl
      refine pure_ (i := 1) (N := some 58) (v := ?_) (a' := ?_) #[true,true,false,false,false,false,false,false,false,false,false,false,false,false,false,false] rfl rfl (by kernel_rfl) (fun _ _ _ h => h) (Or.inl ⟨by rfl, ?_⟩) ?_ ?_
      rotate_left
      ·intro w'
       go_simp
       with_reducible rfl
      rotate_left
      ·simp only [Act.put, List.setIfInBounds_toArray, List.set_cons_zero, List.set_cons_succ, i64_w, i32_w]
       rfl
      refine pure_ (i := 2) (N := some 59) (v := ?_) (a' := ?_) #[true,true,true,false,false,false,false,false,false,false,false,false,false,false,false,false] rfl rfl (by kernel_rfl) (fun _ _ _ h => h) (Or.inl ⟨by rfl, ?_⟩) ?_ ?_
      rotate_left
      ·intro w'
       go_simp
       with_reducible rfl
      rotate_left
      ·simp only [Act.put, List.setIfInBounds_toArray, List.set_cons_zero, List.set_cons_succ, i64_w, i32_w]
       rfl
      refine pure_ (i := 3) (N := some 60) (v := ?_) (a' := ?_) #[true,true,true,true,false,false,false,false,false,false,false,false,false,false,false,false] rfl rfl (by kernel_rfl) (fun _ _ _ h => h) (Or.inl ⟨by rfl, ?_⟩) ?_ ?_
      rotate_left
      ·intro w'
       go_simp
       with_reducible rfl
      rotate_left
      ·simp only [Act.put, List.setIfInBounds_toArray, List.set_cons_zero, List.set_cons_succ, i64_w, i32_w]
       rfl
      refine pure_ (i := 4) (N := some 61) (v := ?_) (a' := ?_) #[true,true,true,true,true,false,false,false,false,false,false,false,false,false,false,false] rfl rfl (by kernel_rfl) (fun _ _ _ h => h) (Or.inl ⟨by rfl, ?_⟩) ?_ ?_
      rotate_left
      ·intro w'
       go_simp
       with_reducible rfl
      rotate_left
      ·simp only [Act.put, List.setIfInBounds_toArray, List.set_cons_zero, List.set_cons_succ, i64_w, i32_w]
       rfl
      refine pure_ (i := 7) (N := some 64) (v := ?_) (a' := ?_) #[true,true,true,true,true,false,false,true,false,false,false,false,false,false,false,false] rfl rfl (by kernel_rfl) (fun _ _ _ h => h) (Or.inl ⟨by rfl, ?_⟩) ?_ ?_
      rotate_left
      ·intro w'
       go_simp
       with_reducible rfl
      rotate_left
      ·simp only [Act.put, List.setIfInBounds_toArray, List.set_cons_zero, List.set_cons_succ, i64_w, i32_w]
       rfl
      refine pure_ (i := 8) (N := some 65) (v := ?_) (a' := ?_) #[true,true,true,true,true,false,false,true,true,false,false,false,false,false,false,false] rfl rfl (by kernel_rfl) (fun _ _ _ h => h) (Or.inl ⟨by rfl, ?_⟩) ?_ ?_
      rotate_left
      ·intro w'
       go_simp
       with_reducible rfl
      rotate_left
      ·simp only [Act.put, List.setIfInBounds_toArray, List.set_cons_zero, List.set_cons_succ, i64_w, i32_w]
       rfl
      refine pure_ (i := 9) (N := some 66) (v := ?_) (a' := ?_) #[true,true,true,true,true,false,false,true,true,true,false,false,false,false,false,false] rfl rfl (by kernel_rfl) (fun _ _ _ h => h) (Or.inl ⟨by rfl, ?_⟩) ?_ ?_
      rotate_left
      ·intro w'
       go_simp
       with_reducible rfl
      rotate_left
      ·simp only [Act.put, List.setIfInBounds_toArray, List.set_cons_zero, List.set_cons_succ, i64_w, i32_w]
       rfl
      refine pure_ (i := 10) (N := some 67) (v := ?_) (a' := ?_) #[true,true,true,true,true,false,false,true,true,true,true,false,false,false,false,false] rfl rfl (by kernel_rfl) (fun _ _ _ h => h) (Or.inl ⟨by rfl, ?_⟩) ?_ ?_
      rotate_left
      ·intro w'
       go_simp
       with_reducible rfl
      rotate_left
      ·simp only [Act.put, List.setIfInBounds_toArray, List.set_cons_zero, List.set_cons_succ, i64_w, i32_w]
       rfl
      refine take_ (i := 5) (N := some 62) (v := ?_) (a' := ?_) #[true,true,true,true,true,true,false,true,true,true,true,false,false,false,false,false] rfl rfl (by kernel_rfl) (fun _ _ _ h => h) (Or.inl ⟨by rfl, ?_⟩) hHeld ?_ ?_
      rotate_left
      ·rintro w' ⟨s0, s1⟩
       go_simp
       with_reducible rfl
      rotate_left
      ·simp only [Act.put, List.setIfInBounds_toArray, List.set_cons_zero, List.set_cons_succ, i64_w, i32_w]
       rfl
      refine pure_ (i := 6) (N := some 63) (v := ?_) (a' := ?_) #[true,true,true,true,true,true,true,true,true,true,true,false,false,false,false,false] rfl rfl (by kernel_rfl) (fun _ _ _ h => h) (Or.inl ⟨by rfl, ?_⟩) ?_ ?_
      rotate_left
      ·intro w'
       go_simp
       with_reducible rfl
      rotate_left
      ·simp only [Act.put, List.setIfInBounds_toArray, List.set_cons_zero, List.set_cons_succ, i64_w, i32_w]
       rfl
      refine take_ (i := 11) (N := some 68) (v := ?_) (a' := ?_) #[true,true,true,true,true,true,true,true,true,true,true,true,false,false,false,false] rfl rfl (by kernel_rfl) (fun _ _ _ h => h) (Or.inl ⟨by rfl, ?_⟩) hHeld ?_ ?_
      rotate_left
      ·rintro w' ⟨s0, s1⟩
       go_simp
       with_reducible rfl
      rotate_left
      ·simp only [Act.put, List.setIfInBounds_toArray, List.set_cons_zero, List.set_cons_succ, i64_w, i32_w]
       rfl
      refine pure_ (i := 12) (N := some 69) (v := ?_) (a' := ?_) #[true,true,true,true,true,true,true,true,true,true,true,true,true,false,false,false] rfl rfl (by kernel_rfl) (fun _ _ _ h => h) (Or.inl ⟨by rfl, ?_⟩) ?_ ?_
      rotate_left
      ·intro w'
       go_simp
       with_reducible rfl
      rotate_left
      ·simp only [Act.put, List.setIfInBounds_toArray, List.set_cons_zero, List.set_cons_succ, i64_w, i32_w]
       rfl
      refine last_ (i := 13) (N := some 70) #[true,true,true,true,true,true,true,true,true,true,true,true,true,true,false,false] rfl rfl (by kernel_rfl) (by decide) (fun K hK => ?_)
      refine box2_step (IntKind.u8.wrap x.f0) (IntKind.u8.wrap x.f1) 63 69 (by rfl) rfl rfl rfl rfl rfl ?_
      intro B7 y7 hb7 hl7 hX7 hS7
      have hZ7 : Below w.heap.size w y7 := below_step (below_drew1 HB3.out) hS7
      have hA7 := (hS7.block _ (by exact hlen3)).trans (show w3.drew.heap[bm]? = _ from HPA.out)
      refine hK.out _ _ ?_
      clear hK K
      refine norm_ (a' := ?_) ?_ ?_
      rotate_left
      ·show Act.put _ (some 70) _ = _
       simp only [Act.put, List.setIfInBounds_toArray, List.set_cons_zero, List.set_cons_succ, i64_w, i32_w]
       rfl
      refine last_ (i := 14) (N := some 71) #[true,true,true,true,true,true,true,true,true,true,true,true,true,true,true,false] rfl rfl (by kernel_rfl) (by decide) (fun K hK => ?_)
      refine Kd.R_append_rows_step kb (Rr := Kd.K kb y7) (w0 := w) w.heap.size (by rfl) (.tmp 57) (.tmp 70) 28 5 (.int .u8 0) 1 rfl Try.underlying28 info5 rfl (by decide) (by decide) u5 ((l0.take i).flatMap enc) [IntKind.u8.wrap x.f0, IntKind.u8.wrap x.f1] (some ⟨B7, 0, none⟩) 2 2 (fun _ => True) (fun _ => False) rfl rfl (Kd.R_below (Kd.R_drew HO3.out) hS7) (arr_reads (l := [IntKind.u8.wrap x.f0, IntKind.u8.wrap x.f1]) hX7 (by simp [maxLen])) ?aK (fun _ h => h.elim) (fun _ _ => trivial) hZ7 hZ7.size ?aL ?_
      (case aK => (intro z cs h; rw [h]; exact rfl))
      (case aL => (have hfl := fl_len (l0.take i); simp only [List.length_append, List.length_take, List.length_cons, List.length_nil, hfl]; omega))
      intro v14 y14 hV14 hZ14 hG14 _
      have hA14 := (hG14.block _ (Nat.lt_of_lt_of_le hlen3 hS7.size) (Kd.R_ne (Kd.R_below (Kd.R_drew HO3.out) hS7) hA7 (by decide))).trans hA7
      refine hK.out _ _ ?_
      clear hK K
      refine norm_ (a' := ?_) ?_ ?_
      rotate_left
      ·show Act.put _ (some 71) _ = _
       simp only [Act.put, List.setIfInBounds_toArray, List.set_cons_zero, List.set_cons_succ, i64_w, i32_w]
       rfl
      refine pure_ (i := 15) (N := some 5) (v := ?_) (a' := ?_) #[true,true,true,true,true,true,true,true,true,true,true,true,true,true,true,true] rfl rfl (by kernel_rfl) (fun _ _ _ h => h) (Or.inl ⟨by rfl, ?_⟩) ?_ ?_
      rotate_left
      ·intro w'
       go_simp
       with_reducible rfl
      rotate_left
      ·simp only [Act.put, List.setIfInBounds_toArray, List.set_cons_zero, List.set_cons_succ, i64_w, i32_w]
       rfl
      refine done_ (by kernel_rfl) ?_
      have HV := Lib.hid hV14
      have HZ := Lib.hid hZ14
      have HA := Lib.hid hA14
      clear hV14 hZ14 hA14 hG14 hX7 hS7 hZ7 hA7 hHeld HB3 HO3 HPA q0 q1 hlen3
      go_wp2_with fail
      go_loopw [5, 8] (fun v5 v8 wq => ∃ j : Nat, j ≤ 8 ∧ v8 = .int .i64 j ∧ Kd.R kb 5 wq w.heap.size (fun _ => True) v5 ((l0.take i).flatMap enc ++ [IntKind.u8.wrap x.f0, IntKind.u8.wrap x.f1] ++ (bl x.f2).take j) ∧ wq.heap[bm]? = some (.cells ((bl x.f2).map (Value.int .u8)).toArray 63 (0, 0)) ∧ Below w.heap.size w wq) (fun _ v8 _ => 8 - (intOf v8).toNat)
      case atStart => exact ⟨0, by omega, rfl, by simpa using HV.out, HA.out, HZ.out⟩
      case round =>
       clear HV HZ HA
       obtain ⟨j, hj, rfl, hO, hA, hb⟩ := hrel
       have HB := Lib.hid hb
       have HO := Lib.hid hO
       have HA := Lib.hid hA
       clear hb hO hA
       by_cases hj8 : j < 8
       ·have hc : w.heap.size ≤ w.heap.size := Nat.le_refl _
        have hcell := blk_cell HA.out j
        have hblj : j < (bl x.f2).length := hj8
        rw [show ((bl x.f2).map (Value.int .u8)).toArray[j]? = some (.int .u8 (bl x.f2)[j]) by simp [hblj]] at hcell
        obtain ⟨y, hy⟩ : ∃ y, y = (bl x.f2)[j] := ⟨_, rfl⟩
        rw [← hy] at hcell
        have htj : (bl x.f2).take (j + 1) = (bl x.f2).take j ++ [y] := by rw [List.take_succ_eq_append_getElem hblj, hy]
        have HTJ := Lib.hid htj
        clear hy htj hblj hc
        have hal : ((l0.take i).flatMap enc ++ [IntKind.u8.wrap x.f0, IntKind.u8.wrap x.f1] ++ (bl x.f2).take j).length + 1 ≤ 140737488355328 := by
         have hfl := fl_len (l0.take i)
         simp only [List.length_append, List.length_take, List.length_cons, List.length_nil, hfl]
         omega
        have HAL := Lib.hid hal
        clear hal
        go_wp2_with ((with_reducible refine gate_builtin (b := .append) (xs := #[.tmp 76, .tmp 80]) rfl ?_); at_builtin; go_loud (refine Kd.R_append kb (w0 := w) w.heap.size rfl (.tmp 76) (.tmp 80) 28 5 (.int .u8 0) 1 rfl Try.underlying28 info5 rfl (by decide) (by decide) u5 ((l0.take i).flatMap enc ++ [IntKind.u8.wrap x.f0, IntKind.u8.wrap x.f1] ++ (bl x.f2).take j) y [.int .u8 y] (fun _ => True) (fun _ => False) rfl rfl ?aP (fun _ hk => hk.elim) ?aF ?aO ?aB ?aS ?aL ?_; (case aP => exact rfl); (case aB => exact HB.out); (case aF => exact (fun _ _ => trivial)); (case aO => exact HO.out); (case aS => exact HB.out.size); (case aL => exact (Nat.mul_one _).symm ▸ HAL.out); intro v1 w1 ho hb hg hat; have hA2 := (hg.block bm (World.block_lt_of_cell? _ _ hcell) (Kd.R_ne HO.out HA.out (by decide))).trans HA.out; rw [List.append_assoc, ← HTJ.out] at ho; have HO2 := Lib.hid ho; have HB2 := Lib.hid hb; have HA2 := Lib.hid hA2; clear ho hb hg hat hA2 HA HO HB hcell))
        refine ⟨?_, ?measure⟩
        repeat apply Exists.intro
        refine ⟨?rel, rfl⟩
        case measure => simp [intOf]; omega
        case rel => exact ⟨j + 1, by omega, by go_num, HO2.out, HA2.out, HB2.out⟩
       ·obtain rfl : j = 8 := by omega
        have hO := HO.out
        rw [show (bl x.f2).take 8 = bl x.f2 from rfl, List.append_assoc, show [IntKind.u8.wrap x.f0, IntKind.u8.wrap x.f1] ++ bl x.f2 = enc x from rfl, show (l0.take i).flatMap enc ++ enc x = (l0.take (i + 1)).flatMap enc by rw [HTK.out, List.flatMap_append]; simp] at hO
        have HO2 := Lib.hid hO
        clear hO HO HA
        go_wp2
        exact ⟨⟨i + 1, by omega, by go_num, HO2.out, HB.out⟩, by simp [intOf]; omega⟩
     ·have di : decide ((i : Int) < (l0.length : Int)) = false := decide_eq_false (by omega)
      obtain rfl : i = l0.length := by omega
      have hO := HO.out
      rw [List.take_length] at hO
      have HO2 := Lib.hid hO
      clear HO hO
      go_wp2
      go_ret2
      exact ⟨_, rfl, HO2.out, HB.out⟩
 ·cases h
end Go.Proofs.Ythmenclkgngkkaa.M
end
section
/- The walk of mail.Decode. -/
set_option linter.unusedSimpArgs false
set_option linter.unusedVariables false
set_option linter.unusedSimpArgs false
set_option linter.unusedVariables false
namespace Go.Proofs.Ythmenclkgngkkaa.M
open Go.RowKit Go.Proofs.Ythmenclkgngkkaa.PA Go.Proofs.Ythmenclkgngkkaa.Dig Go.Proofs.YthmenclkgngkkaaW.PrintWords Go.Proofs.YthmenclkgngkkaaW.PrintMore Go.Proofs.YthmenclkgngkkaaW.PrintLast
def lm (a : Int) : Int := if a = 0 then 12 else if a = 1 then 6 else 256
theorem lm_f (a : Int) : mail_limit.f a = some (lm a) := by
 unfold mail_limit.f lm
 split
 ·rfl
 ·split <;> rfl
def fb : List Int → Nat → Option Nat
 | [], _ => none
 | c :: b, i => if lm ((i : Int) % 10) ≤ c then some i else fb b (i + 1)
def mk : List Int → List S26
 | t :: g :: b0 :: b1 :: b2 :: b3 :: b4 :: b5 :: b6 :: b7 :: l => ⟨t, g, [b0, b1, b2, b3, b4, b5, b6, b7].foldl jst 0⟩ :: mk l
 | _ => []
def lenOf : Value → Nat | .slice _ n _ => n | _ => 0
def mail_Decode.f (b : List Int) : Option (List S26 × Int × Int) := if (∀ c ∈ b, 0 ≤ c ∧ c < 256) ∧ b.length ≤ 1000000000000 then (match fb b 0 with | some i => some ([], (i : Int), 3) | none => if b.length % 10 = 0 then some (mk b, 0, 0) else some ([], (b.length : Int), 3)) else none
theorem byte_at {w : World} {A : Option Addr} {n : Nat} {xs : List Int} (h : Kd.C kb w A n xs) {i : Nat} (hi : i < xs.length) : ∃ ad, A = some ad ∧ w.cell? (ad.add i) = some (.int .u8 xs[i]) := by
 obtain ⟨ad, e, hc⟩ := h.2.2 (by have := h.1; omega)
 obtain ⟨c, hs, hr, hcell⟩ := hc i _ (List.getElem?_eq_getElem hi)
 refine ⟨ad, e, ?_⟩
 have hr : c = [.int .u8 xs[i]] := hr
 subst hr
 have := hcell 0 _ rfl
 rw [show i * kb.sz + 0 = i by show i * 1 + 0 = i; omega] at this
 exact this
theorem ten (l : List Int) (h : 10 ≤ l.length) : ∃ t g b0 b1 b2 b3 b4 b5 b6 b7, l = t :: g :: b0 :: b1 :: b2 :: b3 :: b4 :: b5 :: b6 :: b7 :: l.drop 10 := by
 rcases l with _ | ⟨t, _ | ⟨g, _ | ⟨b0, _ | ⟨b1, _ | ⟨b2, _ | ⟨b3, _ | ⟨b4, _ | ⟨b5, _ | ⟨b6, _ | ⟨b7, l⟩⟩⟩⟩⟩⟩⟩⟩⟩⟩ <;> simp at h
 exact ⟨t, g, b0, b1, b2, b3, b4, b5, b6, b7, rfl⟩
set_option maxRecDepth 100000 in
set_option maxHeartbeats 8000000 in
theorem mail_Decode.calls (A0 : Option Addr) (c0 : Nat) (l0 : List Int) (r1 : List S26) (r2 r3 : Int) (w : World) (hr0 : Kd.C kb w A0 l0.length l0) (hc0 : l0.length ≤ c0) (h : mail_Decode.f l0 = some (r1, r2, r3)) :
  Calls Try.prog 12 #[.slice A0 l0.length c0] w fun e w' => ∃ v0_ : Value, e = .returned (.tuple #[v0_, .int .i64 r2, .int .i64 r3]) ∧ Kd.R k26 26 w' w.heap.size (fun _ => True) v0_ r1 ∧ Below w.heap.size w w' := by
 unfold mail_Decode.f at h
 split at h
 ·rename_i hq
  obtain ⟨hwf, hll⟩ := hq
  have HF := Lib.hid h
  have HR := Lib.hid hr0
  have HW := Lib.hid hwf
  clear h hr0 hwf
  go_enter Try.func12, Try.ntmps12
  go_wp2
  go_loopw [11] (fun v11 wr => ∃ i : Nat, i ≤ l0.length ∧ v11 = .int .i64 i ∧ fb l0 0 = fb (l0.drop i) i ∧ Below w.heap.size w wr) (fun v11 _ => l0.length - (intOf v11).toNat)
  case atStart => exact ⟨0, Nat.zero_le _, rfl, by simp, Below.refl _ _⟩
  case round =>
   obtain ⟨i, hi, rfl, hfb, hb⟩ := hrel
   have HB := Lib.hid hb
   have HFB := Lib.hid hfb
   clear hb hfb
   by_cases hlt : i < l0.length
   ·have di : decide ((i : Int) < (l0.length : Int)) = true := decide_eq_true (by omega)
    have dn : decide ((0 : Int) ≤ (i : Int)) = true := decide_eq_true (by omega)
    obtain ⟨ad, e, q0⟩ := byte_at HR.out hlt
    subst e
    replace q0 := (HB.out.cell (World.block_lt_of_cell? w _ q0)).trans q0
    have hfb := HFB.out
    rw [List.drop_eq_getElem_cons hlt, fb] at hfb
    obtain ⟨x, hx⟩ : ∃ x, x = l0[i] := ⟨_, rfl⟩
    have hxr := HW.out _ (List.getElem_mem hlt)
    rw [← hx] at q0 hxr hfb
    have hwx : wrap64 x = x := by unfold wrap64; omega
    clear hx
    by_cases hw : lm ((i : Int) % 10) ≤ x
    ·rw [if_pos hw] at hfb
     have dg : decide (x ≥ lm ((i : Int) % 10)) = true := decide_eq_true hw
     have hres := HF.out
     rw [hfb] at hres
     injection hres with hres
     injection hres with e1 e2
     injection e2 with e2 e3
     subst e1; subst e2; subst e3
     clear hw HF hfb hxr
     go_wp2_with fail
     with_reducible refine (mail_limit.calls _ _ _ (lm_f _)).mono ?_
     rintro e w1 ⟨rfl, ⟨nd, rfl⟩⟩
     go_wp2
     go_ret3
     exact ⟨_, rfl, Kd.R_nil _ _ _ _ _, pw_below_drewN HB.out _⟩
    ·rw [if_neg hw] at hfb
     have dg : decide (x ≥ lm ((i : Int) % 10)) = false := decide_eq_false hw
     have HFB2 := Lib.hid hfb
     clear hw hfb hxr HFB
     go_wp2_with fail
     with_reducible refine (mail_limit.calls _ _ _ (lm_f _)).mono ?_
     rintro e w1 ⟨rfl, ⟨nd, rfl⟩⟩
     go_wp2
     exact ⟨⟨i + 1, by omega, by go_num, HFB2.out, pw_below_drewN HB.out _⟩, by simp [intOf]; omega⟩
   ·have di : decide ((i : Int) < (l0.length : Int)) = false := decide_eq_false (by omega)
    obtain rfl : i = l0.length := by omega
    have hfb := HFB.out
    rw [List.drop_length, fb] at hfb
    have hres := HF.out
    rw [hfb] at hres
    simp only at hres
    by_cases hm : l0.length % 10 = 0
    ·rw [if_pos hm] at hres
     have dm : ((l0.length : Int) % 10 != 0) = false := bne_eq_false_iff_eq.mpr (by omega)
     have HRES := Lib.hid hres
     have HM := Lib.hid hm
     clear hm hres hfb HFB HF
     have hb0 := HB.out
     go_wp2_with fail
     go_loopw [0, 7] (fun v0 v7 wq => ∃ (A : Option Addr) (c : Nat) (l : List Int) (acc : List S26), v0 = .slice A l.length c ∧ l.length ≤ c ∧ l.length % 10 = 0 ∧ (∀ x ∈ l, 0 ≤ x ∧ x < 256) ∧ Kd.C kb w A l.length l ∧ acc ++ mk l = mk l0 ∧ acc.length + l.length ≤ l0.length ∧ Kd.R k26 26 wq w.heap.size (fun _ => True) v7 acc ∧ Below w.heap.size w wq) (fun v0 _ _ => lenOf v0)
     case atStart => exact ⟨A0, c0, l0, [], rfl, hc0, HM.out, HW.out, HR.out, rfl, by simp, Kd.R_nil _ _ _ _ _, hb0⟩
     case round =>
      clear HB hb0
      obtain ⟨A, c, l, acc, rfl, hlc, hl10, hlr, hC, hacc, hal, hO, hb⟩ := hrel
      have HB := Lib.hid hb
      have HO := Lib.hid hO
      have HACC := Lib.hid hacc
      clear hb hO hacc
      by_cases hz : l.length = 0
      ·have dz : decide (0 < (l.length : Int)) = false := decide_eq_false (by omega)
       have e : l = [] := List.length_eq_zero_iff.1 hz
       subst e
       have hacc := HACC.out
       rw [show mk [] = [] from rfl, List.append_nil] at hacc
       have hres := HRES.out
       rw [← hacc] at hres
       injection hres with hres
       injection hres with e1 e2
       injection e2 with e2 e3
       subst e1; subst e2; subst e3
       go_wp2
       go_ret3
       exact ⟨_, rfl, HO.out, HB.out⟩
      ·have dz : decide (0 < (l.length : Int)) = true := decide_eq_true (by omega)
       have dy : (1 < (l.length : Int)) = True := eq_true (by omega)
       have dy0 : (0 < (l.length : Int)) = True := eq_true (by omega)
       have h10 : 10 ≤ l.length := by omega
       obtain ⟨ad, rfl, -⟩ := hC.2.2 (by omega)
       obtain ⟨i5, hi5, _, hsz5, _⟩ := info_parts info5
       have hcut := cut_mid (P := Try.prog) 28 5 .i64 .i64 Try.underlying28 hi5 1 hsz5 (some ad) l.length c 2 10 (by omega) (by omega) (by omega) hlc
       rw [if_neg (by simp; omega)] at hcut
       have hcut2 := cut_from (P := Try.prog) 28 5 .i64 Try.underlying28 hi5 1 hsz5 (some ad) l.length c 10 (by omega) (by omega)
       have hap := fun W => run_arrayAt (P := Try.prog) (w := W) 63 5 8 (some ⟨ad.block, ad.off + 2, none⟩) 8 (c - 2) Try.underlying63 (Nat.le_refl 8)
       obtain ⟨A1, hA1⟩ : ∃ A1, A1 = (if c = (10 : Int).toNat then some ad else (some ad : Option Addr).map (·.add ((10 : Int).toNat * 1))) := ⟨_, rfl⟩
       have hC2 : Kd.C kb w A1 (l.drop 10).length (l.drop 10) := by rw [hA1]; exact Kd.C_drop (m := 10) hC h10 hlc
       rw [← hA1, ← show (l.drop 10).length = l.length - (10 : Int).toNat by simp] at hcut2
       have HC2 := Lib.hid hC2
       have hcell : ∀ i (h : i < l.length), w.cell? (ad.add i) = some (.int .u8 l[i]) := fun i h => by
        obtain ⟨ad', e, hq⟩ := byte_at hC h
        injection e with e
        rw [e]; exact hq
       clear hC hA1 hi5 hsz5
       obtain ⟨t, g, b0, b1, b2, b3, b4, b5, b6, b7, hl⟩ := ten l h10
       obtain ⟨rest, hrest⟩ : ∃ r, r = l.drop 10 := ⟨_, rfl⟩
       rw [← hrest] at hl HC2 hcut2
       have q0 := hcell 0 (by omega)
       have q1 := hcell 1 (by omega)
       have d0 := hcell 2 (by omega)
       have d1 := hcell 3 (by omega)
       have d2 := hcell 4 (by omega)
       have d3 := hcell 5 (by omega)
       have d4 := hcell 6 (by omega)
       have d5 := hcell 7 (by omega)
       have d6 := hcell 8 (by omega)
       have d7 := hcell 9 (by omega)
       clear hcell hrest
       simp only [show l[0] = t by simp [hl], show l[1] = g by simp [hl], show l[2] = b0 by simp [hl], show l[3] = b1 by simp [hl], show l[4] = b2 by simp [hl], show l[5] = b3 by simp [hl], show l[6] = b4 by simp [hl], show l[7] = b5 by simp [hl], show l[8] = b6 by simp [hl], show l[9] = b7 by simp [hl]] at q0 q1 d0 d1 d2 d3 d4 d5 d6 d7
       replace q0 := (HB.out.cell (World.block_lt_of_cell? w _ q0)).trans q0
       replace q1 := (HB.out.cell (World.block_lt_of_cell? w _ q1)).trans q1
       replace d0 := (HB.out.cell (World.block_lt_of_cell? w _ d0)).trans d0
       replace d1 := (HB.out.cell (World.block_lt_of_cell? w _ d1)).trans d1
       replace d2 := (HB.out.cell (World.block_lt_of_cell? w _ d2)).trans d2
       replace d3 := (HB.out.cell (World.block_lt_of_cell? w _ d3)).trans d3
       replace d4 := (HB.out.cell (World.block_lt_of_cell? w _ d4)).trans d4
       replace d5 := (HB.out.cell (World.block_lt_of_cell? w _ d5)).trans d5
       replace d6 := (HB.out.cell (World.block_lt_of_cell? w _ d6)).trans d6
       replace d7 := (HB.out.cell (World.block_lt_of_cell? w _ d7)).trans d7
       rw [show ad.add 0 = ad by simp [Addr.add]] at q0
       rw [show ad.add 1 = ⟨ad.block, ad.off + 1, none⟩ from add_field ad 0 1 (by omega)] at q1
       rw [show ad.add 2 = ⟨ad.block, ad.off + 2, none⟩ from add_field ad 0 2 (by omega)] at d0
       rw [show ad.add 3 = ⟨ad.block, ad.off + 2 + 1, none⟩ from add_field ad 2 1 (by omega)] at d1
       rw [show ad.add 4 = ⟨ad.block, ad.off + 2 + 2, none⟩ from add_field ad 2 2 (by omega)] at d2
       rw [show ad.add 5 = ⟨ad.block, ad.off + 2 + 3, none⟩ from add_field ad 2 3 (by omega)] at d3
       rw [show ad.add 6 = ⟨ad.block, ad.off + 2 + 4, none⟩ from add_field ad 2 4 (by omega)] at d4
       rw [show ad.add 7 = ⟨ad.block, ad.off + 2 + 5, none⟩ from add_field ad 2 5 (by omega)] at d5
       rw [show ad.add 8 = ⟨ad.block, ad.off + 2 + 6, none⟩ from add_field ad 2 6 (by omega)] at d6
       rw [show ad.add 9 = ⟨ad.block, ad.off + 2 + 7, none⟩ from add_field ad 2 7 (by omega)] at d7
       have hbr : ∀ x ∈ [b0, b1, b2, b3, b4, b5, b6, b7], 0 ≤ x ∧ x < 256 := fun x hx => hlr x (by rw [hl]; exact List.mem_cons_of_mem _ (List.mem_cons_of_mem _ (by rw [show b0 :: b1 :: b2 :: b3 :: b4 :: b5 :: b6 :: b7 :: rest = [b0, b1, b2, b3, b4, b5, b6, b7] ++ rest from rfl]; exact List.mem_append.2 (.inl hx))))
       have hwt : wrap64 t = t := by have := hlr t (by rw [hl]; simp); unfold wrap64; omega
       have hwg : wrap64 g = g := by have := hlr g (by rw [hl]; simp); unfold wrap64; omega
       have hrr : ∀ x ∈ rest, 0 ≤ x ∧ x < 256 := fun x hx => hlr x (by rw [hl]; simp [hx])
       have hmk : mk l = ⟨t, g, [b0, b1, b2, b3, b4, b5, b6, b7].foldl jst 0⟩ :: mk rest := by rw [hl]; rfl
       have hrl : rest.length + 10 = l.length := by rw [hl]; simp
       have hacc := HACC.out
       rw [hmk] at hacc
       have HACC2 := Lib.hid hacc
       have HBR := Lib.hid hbr
       have HRR := Lib.hid hrr
       have HLR := Lib.hid hrl
       have HHL := Lib.hid hal
       have HLC := Lib.hid hlc
       clear hbr hrr hmk hacc HACC hlr hl hrl hal hlc
       go_wp2_with fail
       with_reducible refine (njoin_ok _ _ _ _ _ _ _ _ _ HBR.out).mono ?_
       rintro e w1 ⟨rfl, hb1⟩
       obtain ⟨X, hX⟩ : ∃ X, X = [b0, b1, b2, b3, b4, b5, b6, b7].foldl jst 0 := ⟨_, rfl⟩
       have hacc := HACC2.out
       rw [← hX] at hacc ⊢
       have HACC := Lib.hid hacc
       have HB1 := Lib.hid (below_step HB.out hb1)
       have HO1 := Lib.hid (Kd.R_below HO.out hb1)
       replace q0 := (hb1.cell (World.block_lt_of_cell? _ _ q0)).trans q0
       replace q1 := (hb1.cell (World.block_lt_of_cell? _ _ q1)).trans q1
       clear hX hacc HACC2 HB HO hb1 d0 d1 d2 d3 d4 d5 d6 d7
       go_wp2_with fail
       refine start_ (n := 14) (S := fun w' => w'.cell? ad = some (.int .u8 t) ∧ w'.cell? ⟨ad.block, ad.off + 1, none⟩ = some (.int .u8 g)) (ds := [11, 12]) #[false,false,false,false,false,false,false,false,false,false,false,false,false,false] (by kernel_rfl) rfl rfl ⟨q0, q1⟩ (fun hHeld => ?_)
       refine pure_ (i := 0) (N := some 40) (v := ?_) (a' := ?_) #[true,false,false,false,false,false,false,false,false,false,false,false,false,false] rfl rfl (by kernel_rfl) (fun _ _ _ h => h) (Or.inl ⟨by rfl, ?_⟩) ?_ ?_
       rotate_left
       ·intro w'
        go_simp
        with_reducible rfl
       rotate_left
       ·simp only [Act.put, List.setIfInBounds_toArray, List.set_cons_zero, List.set_cons_succ, i64_w, i32_w]
        rfl
       refine pure_ (i := 1) (N := some 41) (v := ?_) (a' := ?_) #[true,true,false,false,false,false,false,false,false,false,false,false,false,false] rfl rfl (by kernel_rfl) (fun _ _ _ h => h) (Or.inl ⟨by rfl, ?_⟩) ?_ ?_
       rotate_left
       ·intro w'
        go_simp
        with_reducible rfl
       rotate_left
       ·simp only [Act.put, List.setIfInBounds_toArray, List.set_cons_zero, List.set_cons_succ, i64_w, i32_w]
        rfl
       refine pure_ (i := 2) (N := some 42) (v := ?_) (a' := ?_) #[true,true,true,false,false,false,false,false,false,false,false,false,false,false] rfl rfl (by kernel_rfl) (fun _ _ _ h => h) (Or.inl ⟨by rfl, ?_⟩) ?_ ?_
       rotate_left
       ·intro w'
        go_simp
        with_reducible rfl
       rotate_left
       ·simp only [Act.put, List.setIfInBounds_toArray, List.set_cons_zero, List.set_cons_succ, i64_w, i32_w]
        rfl
       refine pure_ (i := 5) (N := some 45) (v := ?_) (a' := ?_) #[true,true,true,false,false,true,false,false,false,false,false,false,false,false] rfl rfl (by kernel_rfl) (fun _ _ _ h => h) (Or.inl ⟨by rfl, ?_⟩) ?_ ?_
       rotate_left
       ·intro w'
        go_simp
        with_reducible rfl
       rotate_left
       ·simp only [Act.put, List.setIfInBounds_toArray, List.set_cons_zero, List.set_cons_succ, i64_w, i32_w]
        rfl
       refine pure_ (i := 6) (N := some 46) (v := ?_) (a' := ?_) #[true,true,true,false,false,true,true,false,false,false,false,false,false,false] rfl rfl (by kernel_rfl) (fun _ _ _ h => h) (Or.inl ⟨by rfl, ?_⟩) ?_ ?_
       rotate_left
       ·intro w'
        go_simp
        with_reducible rfl
       rotate_left
       ·simp only [Act.put, List.setIfInBounds_toArray, List.set_cons_zero, List.set_cons_succ, i64_w, i32_w]
        rfl
       refine pure_ (i := 9) (N := some 49) (v := ?_) (a' := ?_) #[true,true,true,false,false,true,true,false,false,true,false,false,false,false] rfl rfl (by kernel_rfl) (fun _ _ _ h => h) (Or.inl ⟨by rfl, ?_⟩) ?_ ?_
       rotate_left
       ·intro w'
        go_simp
        with_reducible rfl
       rotate_left
       ·simp only [Act.put, List.setIfInBounds_toArray, List.set_cons_zero, List.set_cons_succ, i64_w, i32_w]
        rfl
       refine take_ (i := 3) (N := some 43) (v := ?_) (a' := ?_) #[true,true,true,true,false,true,true,false,false,true,false,false,false,false] rfl rfl (by kernel_rfl) (fun _ _ _ h => h) (Or.inl ⟨by rfl, ?_⟩) hHeld ?_ ?_
       rotate_left
       ·rintro w' ⟨s0, s1⟩
        go_simp
        with_reducible rfl
       rotate_left
       ·simp only [Act.put, List.setIfInBounds_toArray, List.set_cons_zero, List.set_cons_succ, i64_w, i32_w]
        rfl
       refine pure_ (i := 4) (N := some 44) (v := ?_) (a' := ?_) #[true,true,true,true,true,true,true,false,false,true,false,false,false,false] rfl rfl (by kernel_rfl) (fun _ _ _ h => h) (Or.inl ⟨by rfl, ?_⟩) ?_ ?_
       rotate_left
       ·intro w'
        go_simp
        with_reducible rfl
       rotate_left
       ·simp only [Act.put, List.setIfInBounds_toArray, List.set_cons_zero, List.set_cons_succ, i64_w, i32_w]
        rfl
       refine take_ (i := 7) (N := some 47) (v := ?_) (a' := ?_) #[true,true,true,true,true,true,true,true,false,true,false,false,false,false] rfl rfl (by kernel_rfl) (fun _ _ _ h => h) (Or.inl ⟨by rfl, ?_⟩) hHeld ?_ ?_
       rotate_left
       ·rintro w' ⟨s0, s1⟩
        go_simp
        with_reducible rfl
       rotate_left
       ·simp only [Act.put, List.setIfInBounds_toArray, List.set_cons_zero, List.set_cons_succ, i64_w, i32_w]
        rfl
       refine pure_ (i := 8) (N := some 48) (v := ?_) (a' := ?_) #[true,true,true,true,true,true,true,true,true,true,false,false,false,false] rfl rfl (by kernel_rfl) (fun _ _ _ h => h) (Or.inl ⟨by rfl, ?_⟩) ?_ ?_
       rotate_left
       ·intro w'
        go_simp
        with_reducible rfl
       rotate_left
       ·simp only [Act.put, List.setIfInBounds_toArray, List.set_cons_zero, List.set_cons_succ, i64_w, i32_w]
        rfl
       refine pure_ (i := 10) (N := some 50) (v := ?_) (a' := ?_) #[true,true,true,true,true,true,true,true,true,true,true,false,false,false] rfl rfl (by kernel_rfl) (fun _ _ _ h => h) (Or.inl ⟨by rfl, ?_⟩) ?_ ?_
       rotate_left
       ·intro w'
        go_simp
        with_reducible rfl
       rotate_left
       ·simp only [Act.put, List.setIfInBounds_toArray, List.set_cons_zero, List.set_cons_succ, i64_w, i32_w]
        rfl
       refine last_ (i := 11) (N := some 51) #[true,true,true,true,true,true,true,true,true,true,true,true,false,false] rfl rfl (by kernel_rfl) (by decide) (fun K hK => ?_)
       refine box26_step ⟨t, g, X⟩ 50 (by rfl) rfl rfl rfl rfl ?_
       intro B7 y7 hb7 hl7 hX7 hS7
       have hZ7 : Below w.heap.size w y7 := below_step (below_drew1 HB1.out) hS7
       refine hK.out _ _ ?_
       clear hK K
       refine norm_ (a' := ?_) ?_ ?_
       rotate_left
       ·show Act.put _ (some 51) _ = _
        simp only [Act.put, List.setIfInBounds_toArray, List.set_cons_zero, List.set_cons_succ, i64_w, i32_w]
        rfl
       refine last_ (i := 12) (N := some 52) #[true,true,true,true,true,true,true,true,true,true,true,true,true,false] rfl rfl (by kernel_rfl) (by decide) (fun K hK => ?_)
       refine Kd.R_append_rows_step k26 (Rr := Kd.K k26 y7) (w0 := w) w.heap.size (by rfl) (.tmp 40) (.tmp 51) 22 26 (.agg #[(.int .i64 0), (.int .i64 0), (.int .i64 0)]) 24 rfl Try.underlying22 info26 rfl (by decide) (by decide) u7 acc [⟨t, g, X⟩] (some ⟨B7, 0, none⟩) 1 1 (fun _ => True) (fun _ => False) rfl rfl (Kd.R_below (Kd.R_drew HO1.out) hS7) (box_reads hX7) ?aK (fun _ h => h.elim) (fun _ _ => trivial) hZ7 hZ7.size ?aL ?_
       (case aK => (intro z cs h; rw [k26_open h]; exact k26_mkM _ _ _ _))
       (case aL => (have := HHL.out; omega))
       intro v12 y12 hV12 hZ12 hG12 _
       refine hK.out _ _ ?_
       clear hK K
       refine norm_ (a' := ?_) ?_ ?_
       rotate_left
       ·show Act.put _ (some 52) _ = _
        simp only [Act.put, List.setIfInBounds_toArray, List.set_cons_zero, List.set_cons_succ, i64_w, i32_w]
        rfl
       refine pure_ (i := 13) (N := some 7) (v := ?_) (a' := ?_) #[true,true,true,true,true,true,true,true,true,true,true,true,true,true] rfl rfl (by kernel_rfl) (fun _ _ _ h => h) (Or.inl ⟨by rfl, ?_⟩) ?_ ?_
       rotate_left
       ·intro w'
        go_simp
        with_reducible rfl
       rotate_left
       ·simp only [Act.put, List.setIfInBounds_toArray, List.set_cons_zero, List.set_cons_succ, i64_w, i32_w]
        rfl
       refine done_ (by kernel_rfl) ?_
       have hacc := HACC.out
       rw [show acc ++ ⟨t, g, X⟩ :: mk rest = (acc ++ [⟨t, g, X⟩]) ++ mk rest by simp] at hacc
       have HACC2 := Lib.hid hacc
       have HV := Lib.hid hV12
       have HZ := Lib.hid hZ12
       have hrl := HLR.out
       have hrl2 : l.length - 10 = rest.length := by omega
       clear hacc HACC hV12 hZ12 hG12 hZ7 hS7 hX7 hHeld
       go_wp2_with fail
       exact ⟨⟨A1, c - 10, rest, acc ++ [⟨t, g, X⟩], by simp [hrl2], by have := HLC.out; omega, by omega, HRR.out, HC2.out, HACC2.out, by have := HHL.out; simp; omega, HV.out, HZ.out⟩, by simp [lenOf]; omega⟩
    ·rw [if_neg hm] at hres
     have dm : ((l0.length : Int) % 10 != 0) = true := bne_iff_ne.mpr (by omega)
     injection hres with hres
     injection hres with e1 e2
     injection e2 with e2 e3
     subst e1; subst e2; subst e3
     clear hm hfb HF
     go_wp2
     go_ret3
     exact ⟨_, rfl, Kd.R_nil _ _ _ _ _, HB.out⟩
 ·cases h
end Go.Proofs.Ythmenclkgngkkaa.M
end
section
/- The walk of the reference's Decode. -/
set_option linter.unusedSimpArgs false
set_option linter.unusedVariables false
set_option linter.unusedSimpArgs false
set_option linter.unusedVariables false
namespace Go.Proofs.Ythmenclkgngkkaa.M
open Go.RowKit Go.Proofs.Ythmenclkgngkkaa.PA Go.Proofs.Ythmenclkgngkkaa.Dig Go.Proofs.YthmenclkgngkkaaW.PrintWords Go.Proofs.YthmenclkgngkkaaW.PrintMore Go.Proofs.YthmenclkgngkkaaW.PrintLast
theorem fb_skip : ∀ (k : Nat) (l : List Int) (i : Nat), (∀ c ∈ l, c < 256) → (∀ j < k, 2 ≤ (i + j) % 10) → fb l i = fb (l.drop k) (i + k)
 | 0, l, i, _, _ => by simp
 | k + 1, [], i, _, _ => by simp [fb]
 | k + 1, c :: l, i, hc, hj => by
  have h0 := hj 0 (by omega)
  have hl : lm ((i : Int) % 10) = 256 := by unfold lm; rw [if_neg (by omega), if_neg (by omega)]
  rw [fb, hl, if_neg (by have := hc c (by simp); omega), List.drop_succ_cons, fb_skip k l (i + 1) (fun d hd => hc d (by simp [hd])) (fun j hjk => by have := hj (j + 1) (by omega); rw [show i + 1 + j = i + (j + 1) by omega]; exact this)]
  rw [show i + 1 + k = i + (k + 1) by omega]
theorem fb_none (l : List Int) (i : Nat) (hc : ∀ c ∈ l, c < 256) (hj : ∀ j < l.length, 2 ≤ (i + j) % 10) : fb l i = none := by
 rw [fb_skip l.length l i hc hj, List.drop_length]; rfl
theorem lm0 {i : Nat} (h : i % 10 = 0) : lm ((i : Int) % 10) = 12 := by unfold lm; rw [if_pos (by omega)]
theorem lm1 {i : Nat} (h : i % 10 = 0) : lm (((i + 1 : Nat) : Int) % 10) = 6 := by unfold lm; rw [if_neg (by omega), if_pos (by omega)]
theorem idx_3 {i j n : Nat} (h : i + 2 + j < n) : ((i : Int) + 2 + (j : Int) < (n : Int)) = True := eq_true (by omega)
theorem idx_0 (i j : Nat) : (0 ≤ (i : Int) + 2 + (j : Int)) = True := eq_true (by omega)
theorem idx_t (i j : Nat) : ((i : Int) + 2 + (j : Int)).toNat = i + 2 + j := by omega
theorem add_pos (ad : Addr) {j : Nat} (h : 0 < j) : ad.add j = ⟨ad.block, ad.off + j, none⟩ := by unfold Addr.add; rw [if_neg (by omega)]
def st (l : List Int) (j : Nat) : List Value := (List.range 8).map (fun k => if k < j then Value.int .u8 (l.getD k 0) else .int .u8 0)
theorem st_len (l : List Int) (j : Nat) : (st l j).length = 8 := by simp [st]
theorem st_set (l : List Int) {j : Nat} (hj : j < 8) : (st l j).set j (.int .u8 (l.getD j 0)) = st l (j + 1) := by
 apply List.ext_getElem
 ·simp [st]
 ·intro k h1 h2
  simp only [st, List.getElem_set, List.getElem_map, List.getElem_range]
  by_cases e : j = k
  ·subst e; simp
  ·rw [if_neg e]
   by_cases q : k < j
   ·rw [if_pos q, if_pos (by omega)]
   ·rw [if_neg q, if_neg (by omega)]
set_option maxRecDepth 100000 in
set_option maxHeartbeats 8000000 in
theorem reticuleref21_Decode.calls (A0 : Option Addr) (c0 : Nat) (l0 : List Int) (r1 : List S26) (r2 r3 : Int) (w : World) (hr0 : Kd.C kb w A0 l0.length l0) (hc0 : l0.length ≤ c0) (h : mail_Decode.f l0 = some (r1, r2, r3)) :
  Calls Try.prog 24 #[.slice A0 l0.length c0] w fun e w' => ∃ v0_ : Value, e = .returned (.tuple #[v0_, .int .i64 r2, .int .i64 r3]) ∧ Kd.R k26 26 w' w.heap.size (fun _ => True) v0_ r1 ∧ Below w.heap.size w w' := by
 unfold mail_Decode.f at h
 split at h
 ·rename_i hq
  obtain ⟨hwf, hll⟩ := hq
  have HF := Lib.hid h
  have HR := Lib.hid hr0
  have HW := Lib.hid hwf
  clear h hr0 hwf
  go_enter Try.func24, Try.ntmps24
  go_wp2
  go_loopw [5, 6] (fun v5 v6 wr => ∃ (i : Nat) (acc : List S26), i % 10 = 0 ∧ i ≤ l0.length ∧ v6 = .int .i64 i ∧ fb l0 0 = fb (l0.drop i) i ∧ acc ++ mk (l0.drop i) = mk l0 ∧ acc.length ≤ i ∧ Kd.R k26 26 wr w.heap.size (fun _ => True) v5 acc ∧ Below w.heap.size w wr) (fun _ v6 _ => l0.length - (intOf v6).toNat)
  case atStart => exact ⟨0, [], rfl, Nat.zero_le _, rfl, by simp, by simp, by simp, Kd.R_nil _ _ _ _ _, Below.refl _ _⟩
  case round =>
   obtain ⟨i, acc, hi10, hi, rfl, hfb, hacc, hal, hO, hb⟩ := hrel
   have HB := Lib.hid hb
   have HO := Lib.hid hO
   have HFB := Lib.hid hfb
   have HACC := Lib.hid hacc
   clear hb hO hfb hacc
   by_cases hlt : i < l0.length
   ·have di : decide ((i : Int) < (l0.length : Int)) = true := decide_eq_true (by omega)
    have hw1 : wrap64 ((i : Int) + 1) = (i : Int) + 1 := by unfold wrap64; omega
    have hw10 : wrap64 ((i : Int) + 10) = (i : Int) + 10 := by unfold wrap64; omega
    have hws : wrap64 ((l0.length : Int) - (i : Int)) = (l0.length : Int) - (i : Int) := by unfold wrap64; omega
    obtain ⟨ad, e, q0⟩ := byte_at HR.out hlt
    subst e
    replace q0 := (HB.out.cell (World.block_lt_of_cell? w _ q0)).trans q0
    obtain ⟨x, hx⟩ : ∃ x, x = l0[i] := ⟨_, rfl⟩
    have hxr := HW.out _ (List.getElem_mem hlt)
    have hdr := List.drop_eq_getElem_cons hlt
    rw [← hx] at q0 hxr hdr
    have hfb := HFB.out
    rw [hdr, fb, lm0 hi10] at hfb
    have hwx : wrap64 x = x := by unfold wrap64; omega
    clear hx
    by_cases hx12 : 12 ≤ x
    ·have dx : decide (x ≥ 12) = true := decide_eq_true hx12
     rw [if_pos hx12] at hfb
     have hres := HF.out
     rw [hfb] at hres
     injection hres with hres
     injection hres with e1 e2
     injection e2 with e2 e3
     subst e1; subst e2; subst e3
     clear hx12 HF hfb hxr hdr
     go_wp2
     go_ret3
     exact ⟨_, rfl, Kd.R_nil _ _ _ _ _, HB.out⟩
    ·have dx : decide (x ≥ 12) = false := decide_eq_false hx12
     rw [if_neg hx12] at hfb
     by_cases hlt1 : i + 1 < l0.length
     ·have di1 : decide ((i : Int) + 1 < (l0.length : Int)) = true := decide_eq_true (by omega)
      obtain ⟨ad', e, q1⟩ := byte_at HR.out hlt1
      injection e with e
      subst e
      replace q1 := (HB.out.cell (World.block_lt_of_cell? w _ q1)).trans q1
      rw [add_pos ad (by omega)] at q1
      obtain ⟨y, hy⟩ : ∃ y, y = l0[i + 1] := ⟨_, rfl⟩
      have hyr := HW.out _ (List.getElem_mem hlt1)
      have hdr1 := List.drop_eq_getElem_cons hlt1
      rw [← hy] at q1 hyr hdr1
      rw [hdr1, fb, lm1 hi10] at hfb
      have hwy : wrap64 y = y := by unfold wrap64; omega
      clear hy
      by_cases hy6 : 6 ≤ y
      ·have dy : decide (y ≥ 6) = true := decide_eq_true hy6
       rw [if_pos hy6] at hfb
       have hres := HF.out
       rw [hfb] at hres
       injection hres with hres
       injection hres with e1 e2
       injection e2 with e2 e3
       subst e1; subst e2; subst e3
       clear hy6 HF hfb hyr hxr hdr hdr1 hx12
       go_wp2
       go_ret3
       exact ⟨_, rfl, Kd.R_nil _ _ _ _ _, HB.out⟩
      ·have dy : decide (y ≥ 6) = false := decide_eq_false hy6
       rw [if_neg hy6] at hfb
       by_cases hl10 : l0.length - i < 10
       ·have d10 : decide ((l0.length : Int) - (i : Int) < 10) = true := decide_eq_true (by omega)
        have hres := HF.out
        rw [hfb, fb_none _ (i + 1 + 1) (fun c hc => (HW.out c (List.mem_of_mem_drop hc)).2) (fun j hj => by rw [List.length_drop] at hj; omega)] at hres
        simp only at hres
        rw [if_neg (by omega)] at hres
        injection hres with hres
        injection hres with e1 e2
        injection e2 with e2 e3
        subst e1; subst e2; subst e3
        clear HF hfb hxr hdr hx12 hyr hdr1 hy6
        go_wp2
        go_ret3
        exact ⟨_, rfl, Kd.R_nil _ _ _ _ _, HB.out⟩
       ·have d10 : decide ((l0.length : Int) - (i : Int) < 10) = false := decide_eq_false (by omega)
        have hf8 : fb (l0.drop (i + 1 + 1)) (i + 1 + 1) = fb (l0.drop (i + 10)) (i + 10) := by
         rw [fb_skip 8 (l0.drop (i + 1 + 1)) (i + 1 + 1) (fun c hc => (HW.out c (List.mem_of_mem_drop hc)).2) (fun j hj => by omega), List.drop_drop]
        have HFB2 := Lib.hid (HFB.out.trans (show fb (l0.drop i) i = fb (l0.drop (i + 10)) (i + 10) by rw [hdr, fb, lm0 hi10, if_neg hx12, hdr1, fb, lm1 hi10, if_neg hy6, hf8]))
        have HDR := Lib.hid hdr
        have HDR1 := Lib.hid hdr1
        have HXR := Lib.hid hxr
        have HYR := Lib.hid hyr
        clear hfb hxr hdr hx12 hyr hdr1 hy6 hf8 HFB
        go_wp2_with fail
        have hA : Arr (wr.alloc (.cells #[.int .u8 0, .int .u8 0, .int .u8 0, .int .u8 0, .int .u8 0, .int .u8 0, .int .u8 0, .int .u8 0] 63)) wr.heap.size 63 (st ((l0.drop (i + 2)).take 8) 0) := Arr.new wr 63 (st ((l0.drop (i + 2)).take 8) 0)
        have hB : Below w.heap.size w (wr.alloc (.cells #[.int .u8 0, .int .u8 0, .int .u8 0, .int .u8 0, .int .u8 0, .int .u8 0, .int .u8 0, .int .u8 0] 63)) := below_alloc HB.out _
        have hO := Kd.R_alloc HO.out (.cells #[.int .u8 0, .int .u8 0, .int .u8 0, .int .u8 0, .int .u8 0, .int .u8 0, .int .u8 0, .int .u8 0] 63)
        have hlb : wr.heap.size < (wr.alloc (.cells #[.int .u8 0, .int .u8 0, .int .u8 0, .int .u8 0, .int .u8 0, .int .u8 0, .int .u8 0, .int .u8 0] 63)).heap.size := by simp
        have hge : w.heap.size ≤ wr.heap.size := HB.out.size
        replace q0 := (show (wr.alloc (.cells #[.int .u8 0, .int .u8 0, .int .u8 0, .int .u8 0, .int .u8 0, .int .u8 0, .int .u8 0, .int .u8 0] 63)).cell? _ = _ from ((below_alloc (Below.refl _ _) _ : Below wr.heap.size wr _).cell (World.block_lt_of_cell? _ _ q0)).trans q0)
        replace q1 := (show (wr.alloc (.cells #[.int .u8 0, .int .u8 0, .int .u8 0, .int .u8 0, .int .u8 0, .int .u8 0, .int .u8 0, .int .u8 0] 63)).cell? _ = _ from ((below_alloc (Below.refl _ _) _ : Below wr.heap.size wr _).cell (World.block_lt_of_cell? _ _ q1)).trans q1)
        generalize wr.alloc (.cells #[.int .u8 0, .int .u8 0, .int .u8 0, .int .u8 0, .int .u8 0, .int .u8 0, .int .u8 0, .int .u8 0] 63) = w3 at hA hB hO hlb q0 q1 ⊢
        obtain ⟨bm, hbm⟩ : ∃ bm, bm = wr.heap.size := ⟨_, rfl⟩
        rw [← hbm] at hA hlb hge ⊢
        clear hbm q0 q1
        have HA3 := Lib.hid hA
        have HB3 := Lib.hid hB
        have HO3 := Lib.hid hO
        clear hA hB hO HB HO
        go_loopw [8] (fun v8 wq => ∃ j : Nat, j ≤ 8 ∧ v8 = .int .i64 j ∧ Arr wq bm 63 (st ((l0.drop (i + 2)).take 8) j) ∧ Kd.R k26 26 wq w.heap.size (fun _ => True) u5 acc ∧ Below w.heap.size w wq) (fun v8 _ => 8 - (intOf v8).toNat)
        case atStart => exact ⟨0, by omega, rfl, HA3.out, HO3.out, HB3.out⟩
        case round =>
         clear HA3 HB3 HO3 hlb
         obtain ⟨j, hj, rfl, hA, hO, hb⟩ := hrel
         have HB := Lib.hid hb
         have HO := Lib.hid hO
         have HA := Lib.hid hA
         clear hb hO hA
         by_cases hj8 : j < 8
         ·have hlj : i + 2 + j < l0.length := by omega
          obtain ⟨ad', e, qj⟩ := byte_at HR.out hlj
          injection e with e
          subst e
          replace qj := (HB.out.cell (World.block_lt_of_cell? w _ qj)).trans qj
          obtain ⟨z, hz⟩ : ∃ z, z = l0[i + 2 + j] := ⟨_, rfl⟩
          rw [← hz] at qj
          have hzd : ((l0.drop (i + 2)).take 8).getD j 0 = z := by rw [hz]; simp [List.getD, List.getElem?_take, hj8, List.getElem?_drop, List.getElem?_eq_getElem hlj]
          have HZD := Lib.hid hzd
          have c0 := HA.out.cell j (by rw [st_len]; exact hj8)
          have f0 := HA.out.free j
          generalize (st ((l0.drop (i + 2)).take 8) j)[j]'(by rw [st_len]; exact hj8) = u at c0
          have hi1 := idx_3 hlj
          have hi0 := idx_0 i j
          have htn := idx_t i j
          clear hz hzd hlj
          go_wp2_with fail
          refine ⟨⟨j + 1, by omega, by go_num, ?_, Kd.R_set HO.out HA.out (by decide) j _, HB.out.setCell (p := ⟨bm, j, none⟩) hge _⟩, by simp [intOf]; omega⟩
          have := HA.out.set j (.int .u8 (((l0.drop (i + 2)).take 8).getD j 0))
          rw [st_set _ hj8, HZD.out] at this
          exact this
         ·obtain rfl : j = 8 := Nat.le_antisymm hj (Nat.le_of_not_lt hj8)
          clear hj hj8
          obtain ⟨t, g, b0, b1, b2, b3, b4, b5, b6, b7, hl⟩ := ten (l0.drop i) (by rw [List.length_drop]; omega)
          have hd10 : (l0.drop i).drop 10 = l0.drop (i + 10) := by rw [List.drop_drop]
          rw [hd10] at hl
          have et : x = t ∧ y = g := by
           have h1 := HDR.out
           rw [hl] at h1
           have h2 := HDR1.out
           injection h1 with h1 h3
           rw [← h3] at h2
           injection h2 with h2 h4
           exact ⟨h1.symm, h2.symm⟩
          obtain ⟨rfl, rfl⟩ := et
          have h8 : (l0.drop (i + 2)).take 8 = [b0, b1, b2, b3, b4, b5, b6, b7] := by
           rw [show l0.drop (i + 2) = (l0.drop i).drop 2 by rw [List.drop_drop], hl]
           rfl
          have hA := HA.out
          rw [h8] at hA
          have hA2 : wr.heap[bm]? = some (.cells #[.int .u8 b0, .int .u8 b1, .int .u8 b2, .int .u8 b3, .int .u8 b4, .int .u8 b5, .int .u8 b6, .int .u8 b7] 63 (0, 0)) := hA
          have a0 : wr.cell? ⟨bm, 0, none⟩ = some (.int .u8 b0) := by rw [blk_cell hA2]; rfl
          have a1 : wr.cell? ⟨bm, 1, none⟩ = some (.int .u8 b1) := by rw [blk_cell hA2]; rfl
          have a2 : wr.cell? ⟨bm, 2, none⟩ = some (.int .u8 b2) := by rw [blk_cell hA2]; rfl
          have a3 : wr.cell? ⟨bm, 3, none⟩ = some (.int .u8 b3) := by rw [blk_cell hA2]; rfl
          have a4 : wr.cell? ⟨bm, 4, none⟩ = some (.int .u8 b4) := by rw [blk_cell hA2]; rfl
          have a5 : wr.cell? ⟨bm, 5, none⟩ = some (.int .u8 b5) := by rw [blk_cell hA2]; rfl
          have a6 : wr.cell? ⟨bm, 6, none⟩ = some (.int .u8 b6) := by rw [blk_cell hA2]; rfl
          have a7 : wr.cell? ⟨bm, 7, none⟩ = some (.int .u8 b7) := by rw [blk_cell hA2]; rfl
          have hbr : ∀ z ∈ [b0, b1, b2, b3, b4, b5, b6, b7], 0 ≤ z ∧ z < 256 := fun z hz => HW.out z (by
           have : z ∈ (l0.drop (i + 2)).take 8 := by rw [h8]; exact hz
           exact List.mem_of_mem_drop (List.mem_of_mem_take this))
          obtain ⟨X, hX⟩ : ∃ X, X = [b0, b1, b2, b3, b4, b5, b6, b7].foldl jst 0 := ⟨_, rfl⟩
          have hX2 : wrap64 ([b0, b1, b2, b3, b4, b5, b6, b7].foldl jsu 0) = X := by rw [hX]; exact (join_eq _ hbr 0 0 (by unfold wrap64; omega) (by omega) (by omega)).symm
          have hacc := HACC.out
          rw [hl, show mk (x :: y :: b0 :: b1 :: b2 :: b3 :: b4 :: b5 :: b6 :: b7 :: l0.drop (i + 10)) = ⟨x, y, X⟩ :: mk (l0.drop (i + 10)) by rw [hX]; rfl, show acc ++ ⟨x, y, X⟩ :: mk (l0.drop (i + 10)) = (acc ++ [⟨x, y, X⟩]) ++ mk (l0.drop (i + 10)) by simp] at hacc
          have HACC2 := Lib.hid hacc
          have HX2 := Lib.hid hX2
          have HBR := Lib.hid hbr
          have hwx2 : wrap64 x = x := by have := HXR.out; unfold wrap64; omega
          have hwy2 : wrap64 y = y := by have := HYR.out; unfold wrap64; omega
          have dx2 : (0 ≤ (i : Int)) = True := eq_true (by omega)
          have dx3 : ((i : Int) < (l0.length : Int)) = True := eq_true (by omega)
          have dy2 : (0 ≤ (i : Int) + 1) = True := eq_true (by omega)
          have dy3 : ((i : Int) + 1 < (l0.length : Int)) = True := eq_true (by omega)
          have dyt : ((i : Int) + 1).toNat = i + 1 := by omega
          obtain ⟨ad', e, p0⟩ := byte_at HR.out hlt
          injection e with e
          subst e
          obtain ⟨ad', e, p1⟩ := byte_at HR.out hlt1
          injection e with e
          subst e
          have ex : l0[i] = x := by
           have h1 := List.drop_eq_getElem_cons hlt
           rw [hl] at h1
           injection h1 with h1 _
           exact h1.symm
          have ey : l0[i + 1] = y := by
           have h1 := List.drop_eq_getElem_cons hlt1
           have h3 := HDR1.out
           rw [h3] at h1
           injection h1 with h1 _
           exact h1.symm
          rw [ex] at p0
          rw [ey, add_pos ad (by omega)] at p1
          replace p0 := (HB.out.cell (World.block_lt_of_cell? w _ p0)).trans p0
          replace p1 := (HB.out.cell (World.block_lt_of_cell? w _ p1)).trans p1
          clear hl hd10 h8 hA hA2 hbr hX hX2 hacc HACC ex ey HDR HDR1 HA
          go_wp2_with fail
          refine start_ (n := 18) (S := fun w' => w'.cell? (ad.add i) = some (.int .u8 x) ∧ w'.cell? ⟨ad.block, ad.off + (i + 1), none⟩ = some (.int .u8 y) ∧ w'.cell? ⟨bm, 0, none⟩ = some (.int .u8 b0) ∧ w'.cell? ⟨bm, 1, none⟩ = some (.int .u8 b1) ∧ w'.cell? ⟨bm, 2, none⟩ = some (.int .u8 b2) ∧ w'.cell? ⟨bm, 3, none⟩ = some (.int .u8 b3) ∧ w'.cell? ⟨bm, 4, none⟩ = some (.int .u8 b4) ∧ w'.cell? ⟨bm, 5, none⟩ = some (.int .u8 b5) ∧ w'.cell? ⟨bm, 6, none⟩ = some (.int .u8 b6) ∧ w'.cell? ⟨bm, 7, none⟩ = some (.int .u8 b7)) (ds := [15, 16]) #[false,false,false,false,false,false,false,false,false,false,false,false,false,false,false,false,false,false] (by kernel_rfl) rfl rfl ⟨p0, p1, a0, a1, a2, a3, a4, a5, a6, a7⟩ (fun hHeld => ?_)
          refine pure_ (i := 0) (N := some 58) (v := ?_) (a' := ?_) #[true,false,false,false,false,false,false,false,false,false,false,false,false,false,false,false,false,false] rfl rfl (by kernel_rfl) (fun _ _ _ h => h) (Or.inl ⟨by rfl, ?_⟩) ?_ ?_
          rotate_left
          ·intro w'
           go_simp
           with_reducible rfl
          rotate_left
          ·simp only [Act.put, List.setIfInBounds_toArray, List.set_cons_zero, List.set_cons_succ, i64_w, i32_w]
           rfl
          refine pure_ (i := 1) (N := some 59) (v := ?_) (a' := ?_) #[true,true,false,false,false,false,false,false,false,false,false,false,false,false,false,false,false,false] rfl rfl (by kernel_rfl) (fun _ _ _ h => h) (Or.inl ⟨by rfl, ?_⟩) ?_ ?_
          rotate_left
          ·intro w'
           go_simp
           with_reducible rfl
          rotate_left
          ·simp only [Act.put, List.setIfInBounds_toArray, List.set_cons_zero, List.set_cons_succ, i64_w, i32_w]
           rfl
          refine pure_ (i := 2) (N := some 60) (v := ?_) (a' := ?_) #[true,true,true,false,false,false,false,false,false,false,false,false,false,false,false,false,false,false] rfl rfl (by kernel_rfl) (fun _ _ _ h => h) (Or.inl ⟨by rfl, ?_⟩) ?_ ?_
          rotate_left
          ·intro w'
           go_simp
           with_reducible rfl
          rotate_left
          ·simp only [Act.put, List.setIfInBounds_toArray, List.set_cons_zero, List.set_cons_succ, i64_w, i32_w]
           rfl
          refine pure_ (i := 3) (N := some 61) (v := ?_) (a' := ?_) #[true,true,true,true,false,false,false,false,false,false,false,false,false,false,false,false,false,false] rfl rfl (by kernel_rfl) (fun _ _ _ h => h) (Or.inl ⟨by rfl, ?_⟩) ?_ ?_
          rotate_left
          ·intro w'
           go_simp
           with_reducible rfl
          rotate_left
          ·simp only [Act.put, List.setIfInBounds_toArray, List.set_cons_zero, List.set_cons_succ, i64_w, i32_w]
           rfl
          refine pure_ (i := 6) (N := some 64) (v := ?_) (a' := ?_) #[true,true,true,true,false,false,true,false,false,false,false,false,false,false,false,false,false,false] rfl rfl (by kernel_rfl) (fun _ _ _ h => h) (Or.inl ⟨by rfl, ?_⟩) ?_ ?_
          rotate_left
          ·intro w'
           go_simp
           with_reducible rfl
          rotate_left
          ·simp only [Act.put, List.setIfInBounds_toArray, List.set_cons_zero, List.set_cons_succ, i64_w, i32_w]
           rfl
          refine pure_ (i := 7) (N := some 65) (v := ?_) (a' := ?_) #[true,true,true,true,false,false,true,true,false,false,false,false,false,false,false,false,false,false] rfl rfl (by kernel_rfl) (fun _ _ _ h => h) (Or.inl ⟨by rfl, ?_⟩) ?_ ?_
          rotate_left
          ·intro w'
           go_simp
           with_reducible rfl
          rotate_left
          ·simp only [Act.put, List.setIfInBounds_toArray, List.set_cons_zero, List.set_cons_succ, i64_w, i32_w]
           rfl
          refine pure_ (i := 8) (N := some 66) (v := ?_) (a' := ?_) #[true,true,true,true,false,false,true,true,true,false,false,false,false,false,false,false,false,false] rfl rfl (by kernel_rfl) (fun _ _ _ h => h) (Or.inl ⟨by rfl, ?_⟩) ?_ ?_
          rotate_left
          ·intro w'
           go_simp
           with_reducible rfl
          rotate_left
          ·simp only [Act.put, List.setIfInBounds_toArray, List.set_cons_zero, List.set_cons_succ, i64_w, i32_w]
           rfl
          refine pure_ (i := 9) (N := some 67) (v := ?_) (a' := ?_) #[true,true,true,true,false,false,true,true,true,true,false,false,false,false,false,false,false,false] rfl rfl (by kernel_rfl) (fun _ _ _ h => h) (Or.inl ⟨by rfl, ?_⟩) ?_ ?_
          rotate_left
          ·intro w'
           go_simp
           with_reducible rfl
          rotate_left
          ·simp only [Act.put, List.setIfInBounds_toArray, List.set_cons_zero, List.set_cons_succ, i64_w, i32_w]
           rfl
          refine take_ (i := 4) (N := some 62) (v := ?_) (a' := ?_) #[true,true,true,true,true,false,true,true,true,true,false,false,false,false,false,false,false,false] rfl rfl (by kernel_rfl) (fun _ _ _ h => h) (Or.inl ⟨by rfl, ?_⟩) hHeld ?_ ?_
          rotate_left
          ·rintro w' ⟨s0, s1, s2, s3, s4, s5, s6, s7, s8, s9⟩
           go_simp
           with_reducible rfl
          rotate_left
          ·simp only [Act.put, List.setIfInBounds_toArray, List.set_cons_zero, List.set_cons_succ, i64_w, i32_w]
           rfl
          refine pure_ (i := 5) (N := some 63) (v := ?_) (a' := ?_) #[true,true,true,true,true,true,true,true,true,true,false,false,false,false,false,false,false,false] rfl rfl (by kernel_rfl) (fun _ _ _ h => h) (Or.inl ⟨by rfl, ?_⟩) ?_ ?_
          rotate_left
          ·intro w'
           go_simp
           with_reducible rfl
          rotate_left
          ·simp only [Act.put, List.setIfInBounds_toArray, List.set_cons_zero, List.set_cons_succ, i64_w, i32_w]
           rfl
          refine take_ (i := 10) (N := some 68) (v := ?_) (a' := ?_) #[true,true,true,true,true,true,true,true,true,true,true,false,false,false,false,false,false,false] rfl rfl (by kernel_rfl) (fun _ _ _ h => h) (Or.inl ⟨by rfl, ?_⟩) hHeld ?_ ?_
          rotate_left
          ·rintro w' ⟨s0, s1, s2, s3, s4, s5, s6, s7, s8, s9⟩
           go_simp
           with_reducible rfl
          rotate_left
          ·simp only [Act.put, List.setIfInBounds_toArray, List.set_cons_zero, List.set_cons_succ, i64_w, i32_w]
           rfl
          refine pure_ (i := 11) (N := some 69) (v := ?_) (a' := ?_) #[true,true,true,true,true,true,true,true,true,true,true,true,false,false,false,false,false,false] rfl rfl (by kernel_rfl) (fun _ _ _ h => h) (Or.inl ⟨by rfl, ?_⟩) ?_ ?_
          rotate_left
          ·intro w'
           go_simp
           with_reducible rfl
          rotate_left
          ·simp only [Act.put, List.setIfInBounds_toArray, List.set_cons_zero, List.set_cons_succ, i64_w, i32_w]
           rfl
          refine take_ (i := 12) (N := some 70) (v := ?_) (a' := ?_) #[true,true,true,true,true,true,true,true,true,true,true,true,true,false,false,false,false,false] rfl rfl (by kernel_rfl) (fun _ _ _ h => h) (Or.inl ⟨by rfl, ?_⟩) hHeld ?_ ?_
          rotate_left
          ·rintro w' ⟨s0, s1, s2, s3, s4, s5, s6, s7, s8, s9⟩
           go_simp
           with_reducible rfl
          rotate_left
          ·simp only [Act.put, List.setIfInBounds_toArray, List.set_cons_zero, List.set_cons_succ, i64_w, i32_w]
           rfl
          refine one_ (i := 13) (N := some 71) #[true,true,true,true,true,true,true,true,true,true,true,true,true,true,false,false,false,false] rfl rfl (by kernel_rfl) (by decide) (fun K hK => ?_)
          refine goes_ Try.func51 (by kernel_rfl) rfl #[.agg #[.int .u8 b0, .int .u8 b1, .int .u8 b2, .int .u8 b3, .int .u8 b4, .int .u8 b5, .int .u8 b6, .int .u8 b7]] (by rfl) rfl rfl (by simp only [List.map_toArray, List.map_cons, List.map_nil]; rfl) ?_
          with_reducible refine (rjoin_ok b0 b1 b2 b3 b4 b5 b6 b7 _ HBR.out).mono ?_
          rintro e w9 ⟨rfl, hb⟩
          refine ⟨_, rfl, ?_⟩
          rw [HX2.out]
          have hZ9 : Below w.heap.size w w9 := below_step (below_drew1 HB.out) hb
          have hO9 := Kd.R_below (Kd.R_drew HO.out) hb
          refine hK.out _ _ ⟨(hb.cell (World.block_lt_of_cell? _ _ p0)).trans p0, (hb.cell (World.block_lt_of_cell? _ _ p1)).trans p1, (hb.cell (World.block_lt_of_cell? _ _ a0)).trans a0, (hb.cell (World.block_lt_of_cell? _ _ a1)).trans a1, (hb.cell (World.block_lt_of_cell? _ _ a2)).trans a2, (hb.cell (World.block_lt_of_cell? _ _ a3)).trans a3, (hb.cell (World.block_lt_of_cell? _ _ a4)).trans a4, (hb.cell (World.block_lt_of_cell? _ _ a5)).trans a5, (hb.cell (World.block_lt_of_cell? _ _ a6)).trans a6, (hb.cell (World.block_lt_of_cell? _ _ a7)).trans a7⟩ (fun hHeld => ?_)
          clear hK K
          refine norm_ (a' := ?_) ?_ ?_
          rotate_left
          ·show Act.put _ (some 71) _ = _
           simp only [Act.put, List.setIfInBounds_toArray, List.set_cons_zero, List.set_cons_succ, i64_w, i32_w]
           rfl
          refine pure_ (i := 14) (N := some 72) (v := ?_) (a' := ?_) #[true,true,true,true,true,true,true,true,true,true,true,true,true,true,true,false,false,false] rfl rfl (by kernel_rfl) (fun _ _ _ h => h) (Or.inl ⟨by rfl, ?_⟩) ?_ ?_
          rotate_left
          ·intro w'
           go_simp
           with_reducible rfl
          rotate_left
          ·simp only [Act.put, List.setIfInBounds_toArray, List.set_cons_zero, List.set_cons_succ, i64_w, i32_w]
           rfl
          refine last_ (i := 15) (N := some 73) #[true,true,true,true,true,true,true,true,true,true,true,true,true,true,true,true,false,false] rfl rfl (by kernel_rfl) (by decide) (fun K hK => ?_)
          refine box26_step ⟨x, y, X⟩ 72 (by rfl) rfl rfl rfl rfl ?_
          intro B7 y7 hb7 hl7 hX7 hS7
          have hZ7 : Below w.heap.size w y7 := below_step hZ9 hS7
          refine hK.out _ _ ?_
          clear hK K
          refine norm_ (a' := ?_) ?_ ?_
          rotate_left
          ·show Act.put _ (some 73) _ = _
           simp only [Act.put, List.setIfInBounds_toArray, List.set_cons_zero, List.set_cons_succ, i64_w, i32_w]
           rfl
          refine last_ (i := 16) (N := some 74) #[true,true,true,true,true,true,true,true,true,true,true,true,true,true,true,true,true,false] rfl rfl (by kernel_rfl) (by decide) (fun K hK => ?_)
          refine Kd.R_append_rows_step k26 (Rr := Kd.K k26 y7) (w0 := w) w.heap.size (by rfl) (.tmp 58) (.tmp 73) 22 26 (.agg #[(.int .i64 0), (.int .i64 0), (.int .i64 0)]) 24 rfl Try.underlying22 info26 rfl (by decide) (by decide) u5 acc [⟨x, y, X⟩] (some ⟨B7, 0, none⟩) 1 1 (fun _ => True) (fun _ => False) rfl rfl (Kd.R_below hO9 hS7) (box_reads hX7) ?aK (fun _ h => h.elim) (fun _ _ => trivial) hZ7 hZ7.size ?aL ?_
          (case aK => (intro z cs h; rw [k26_open h]; exact k26_mkM _ _ _ _))
          (case aL => (have := hal; omega))
          intro v12 y12 hV12 hZ12 hG12 _
          refine hK.out _ _ ?_
          clear hK K
          refine norm_ (a' := ?_) ?_ ?_
          rotate_left
          ·show Act.put _ (some 74) _ = _
           simp only [Act.put, List.setIfInBounds_toArray, List.set_cons_zero, List.set_cons_succ, i64_w, i32_w]
           rfl
          refine pure_ (i := 17) (N := some 5) (v := ?_) (a' := ?_) #[true,true,true,true,true,true,true,true,true,true,true,true,true,true,true,true,true,true] rfl rfl (by kernel_rfl) (fun _ _ _ h => h) (Or.inl ⟨by rfl, ?_⟩) ?_ ?_
          rotate_left
          ·intro w'
           go_simp
           with_reducible rfl
          rotate_left
          ·simp only [Act.put, List.setIfInBounds_toArray, List.set_cons_zero, List.set_cons_succ, i64_w, i32_w]
           rfl
          refine done_ (by kernel_rfl) ?_
          have HV := Lib.hid hV12
          have HZ := Lib.hid hZ12
          clear hV12 hZ12 hG12 hZ7 hS7 hX7 hHeld hO9 hZ9 hb p0 p1 a0 a1 a2 a3 a4 a5 a6 a7
          go_wp2_with fail
          exact ⟨⟨i + 10, acc ++ [⟨x, y, X⟩], by omega, by omega, by go_num, HFB2.out, HACC2.out, by simp; omega, HV.out, HZ.out⟩, by simp [intOf]; omega⟩
     ·have di1 : decide ((i : Int) + 1 < (l0.length : Int)) = false := decide_eq_false (by omega)
      have d10 : decide ((l0.length : Int) - (i : Int) < 10) = true := decide_eq_true (by omega)
      have hres := HF.out
      rw [hfb, List.drop_eq_nil_of_le (by omega), show fb [] (i + 1) = none from rfl] at hres
      simp only at hres
      rw [if_neg (by omega)] at hres
      injection hres with hres
      injection hres with e1 e2
      injection e2 with e2 e3
      subst e1; subst e2; subst e3
      clear HF hfb hxr hdr hx12
      go_wp2
      go_ret3
      exact ⟨_, rfl, Kd.R_nil _ _ _ _ _, HB.out⟩
   ·have di : decide ((i : Int) < (l0.length : Int)) = false := decide_eq_false (by omega)
    obtain rfl : i = l0.length := by omega
    have hfb := HFB.out
    have hacc := HACC.out
    rw [List.drop_length] at hfb hacc
    rw [show mk [] = [] from rfl, List.append_nil] at hacc
    have hres := HF.out
    rw [hfb, show fb [] l0.length = none from rfl] at hres
    simp only at hres
    rw [if_pos hi10, ← hacc] at hres
    injection hres with hres
    injection hres with e1 e2
    injection e2 with e2 e3
    subst e1; subst e2; subst e3
    clear HF hfb HFB HACC hacc
    go_wp2
    go_ret3
    exact ⟨_, rfl, HO.out, HB.out⟩
 ·cases h
end Go.Proofs.Ythmenclkgngkkaa.M
end
section
/- slices.Clone of messages; a message that is put. -/
set_option linter.unusedSimpArgs false
set_option linter.unusedVariables false
namespace Go.Proofs.Ythmenclkgngkkaa.M
open Go.RowKit Go.Proofs.Ythmenclkgngkkaa.PA Go.Proofs.YthmenclkgngkkaaW.PrintWords Go.Proofs.YthmenclkgngkkaaW.PrintMore Go.Proofs.YthmenclkgngkkaaW.PrintLast
theorem own_empty (w : World) (b e s : Nat) (hb : b ≤ w.heap.size) : (w.alloc (.cells #[] e (0, 0))).ownsRow b e s (.slice (some ⟨w.heap.size, 0, none⟩) 0 0) 0 [] :=
  ⟨by simp, Or.inr ⟨w.heap.size, 0, #[], rfl, hb, by show (w.heap.push _)[w.heap.size]? = _; simp, Nat.le_refl _, by simp [maxLen], by simp, by simp⟩⟩
theorem R_empty {α : Type} (d : Kd α) (e : Nat) (w : World) (b : Nat) (hb : b ≤ w.heap.size) : Kd.R d e (w.alloc (.cells #[] e (0, 0))) b (fun _ => True) (.slice (some ⟨w.heap.size, 0, none⟩) 0 0) [] :=
  ⟨fun _ _ => trivial, [], own_empty w b e d.sz hb, Reps.none _ _⟩
set_option maxHeartbeats 2000000 in
theorem clone26 (A : Option Addr) (c : Nat) (l : List S26) (w : World) (hr : Kd.C k26 w A l.length l) (hl : l.length * 24 ≤ 140737488355328) :
    Calls Try.prog 43 #[.slice A l.length c] w fun e w' => ∃ v, e = .returned v ∧ Kd.R k26 26 w' w.heap.size (fun _ => True) v l ∧ Below w.heap.size w w' := by
  cases A with
  | none =>
    have h0 : l = [] := by
      rcases Nat.eq_zero_or_pos l.length with h | h
      · exact List.length_eq_zero_iff.1 h
      · obtain ⟨_, e, _⟩ := hr.2.2 h; cases e
    subst h0
    clear hr hl
    have hq : ∀ (W : World) (a : Option Addr) (n c n' c' : Nat), (binOp .eql 22 (.slice a n c) (.slice none n' c')).run Try.prog W = .ok (.bool a.isNone) W := fun W a n c n' c' => Lib.run_eql_slice_nil W _ _ a n c n' c' Try.underlying22
    go_enter Try.func43, Try.ntmps43
    go_wp2
    go_ret
    exact ⟨_, rfl, Kd.R_nil _ _ _ _ _, Below.refl _ _⟩
  | some ad =>
    have HR := Lib.hid hr
    clear hr
    have hq : ∀ (W : World) (a : Option Addr) (n c n' c' : Nat), (binOp .eql 22 (.slice a n c) (.slice none n' c')).run Try.prog W = .ok (.bool a.isNone) W := fun W a n c n' c' => Lib.run_eql_slice_nil W _ _ a n c n' c' Try.underlying22
    go_enter Try.func43, Try.ntmps43
    go_wp2_with (at_builtin; refine Kd.R_append_rows k26 (Rr := Kd.K k26 (w.alloc (.cells #[] 26))) (w0 := w) w.heap.size rfl (.tmp 5) (.tmp 6) 22 26 _ 24 rfl Try.underlying22 info26 rfl (by decide) (by decide) (.slice (some ⟨w.heap.size, 0, none⟩) 0 0) [] l (some ad) l.length c (fun _ => True) (fun _ => False) rfl rfl (R_empty k26 26 w w.heap.size (Nat.le_refl _)) ?c1 ?c2 (fun k h => h.elim) (fun _ _ => trivial) ((Below.refl _ _).alloc (Nat.le_refl _) _) (by simp) ?c3 ?_; (case c1 => exact Kd.C_below HR.out ((Below.refl _ _).alloc (Nat.le_refl _) _)); (case c2 => (intro x cs h; rw [k26_open h]; exact k26_mkM _ _ _ _)); (case c3 => simpa using hl); intro v1 w1 h1 hb1 _ _; rw [List.nil_append] at h1; have H1 := Lib.hid h1; have HB1 := Lib.hid hb1; clear h1 hb1)
    go_ret
    exact ⟨_, rfl, H1.out, HB1.out⟩
def api_Message.f (l : List S26) : Option (List S26) := if l.length * 24 ≤ 140737488355328 then some l else none
theorem api_Message.calls (A0 : Option Addr) (c0 : Nat) (l0 : List S26) (r : List S26) (w : World) (hr0 : Kd.C k26 w A0 l0.length l0) (_ : l0.length ≤ c0) (h : api_Message.f l0 = some r) :
    Calls Try.prog 43 #[.slice A0 l0.length c0] w fun e w' => ∃ v0_ : Value, e = .returned v0_ ∧ Kd.R k26 26 w' w.heap.size (fun _ => True) v0_ r ∧ Below w.heap.size w w' := by
  unfold api_Message.f at h
  split at h
  · injection h with h
    subst h
    exact clone26 A0 c0 l0 w hr0 ‹_›
  · cases h

theorem msg_own {W : World} {base g n cap : Nat} {ok : Nat → Prop} {xs : List S26} (h : Kd.R k26 26 W base ok (.slice (some ⟨g, 0, none⟩) n cap) xs) {i : Nat} (hi : i < xs.length) :
    W.cell? ⟨g, i * 3, none⟩ = some (.int .i64 xs[i].f0) ∧ W.cell? ⟨g, i * 3 + 1, none⟩ = some (.int .i64 xs[i].f1) ∧ W.cell? ⟨g, i * 3 + 2, none⟩ = some (.int .i64 xs[i].f2) := by
  obtain ⟨hn, _, hC⟩ := Kd.R_reads' h
  obtain ⟨ad, e, h0, h1, h2⟩ := msg_at hC hi
  injection e with e
  subst e
  rw [add_plain] at h0 h1 h2
  exact ⟨h0, h1, h2⟩
theorem row_free {W : World} {base g n cap : Nat} {ok : Nat → Prop} {xs : List S26} (h : Kd.R k26 26 W base ok (.slice (some ⟨g, 0, none⟩) n cap) xs) (k : Nat) : W.frozen? ⟨g, k, none⟩ = false := by
  obtain ⟨_, inner, hown, hr⟩ := h
  rcases hown.2 with ⟨hv, _⟩ | ⟨g', cap', cur, hv, hb, hh, _⟩
  · cases hv
  injection hv with ha _ hc
  injection ha with ha
  injection ha with hg'
  subst hg'
  exact blk_frozen hh k
theorem put3 {W : World} {base g n cap : Nat} {ok : Nat → Prop} {xs : List S26} (h : Kd.R k26 26 W base ok (.slice (some ⟨g, 0, none⟩) n cap) xs) (i : Nat) (hi : i < xs.length) (x : S26) :
    Kd.R k26 26 (((W.setCell ⟨g, i * 3, none⟩ (.int .i64 x.f0)).setCell ⟨g, i * 3 + 1, none⟩ (.int .i64 x.f1)).setCell ⟨g, i * 3 + 2, none⟩ (.int .i64 x.f2)) base ok (.slice (some ⟨g, 0, none⟩) n cap) (xs.set i x) := by
  have hn : n = xs.length := (Kd.R_reads' h).1
  obtain ⟨c0, c1, c2⟩ := msg_own h hi
  have hcc : ∀ (j : Nat) (u : Value), ([.int .i64 xs[i].f0, .int .i64 xs[i].f1, .int .i64 xs[i].f2] : List Value)[j]? = some u → W.cell? ⟨g, (i : Int).toNat * k26.sz + j, none⟩ = some u := by
    intro j u hu
    rw [Int.toNat_natCast, show k26.sz = 3 from rfl]
    rcases j with _ | _ | _ | j
    · simp at hu; rw [← hu]; exact c0
    · simp at hu; rw [← hu]; exact c1
    · simp at hu; rw [← hu]; exact c2
    · simp at hu
  obtain ⟨hrow, _⟩ := Kd.R_seg (j := 0) (seg := [.int .i64 x.f0, .int .i64 x.f1, .int .i64 x.f2]) (x' := x) (okp := fun _ => False) h (i : Int) (by omega) (by omega) (c := [.int .i64 xs[i].f0, .int .i64 xs[i].f1, .int .i64 xs[i].f2]) rfl hcc (Nat.le_refl _) (k26_mkM _ _ _ x) (fun k hk => hk.elim)
  rw [Int.toNat_natCast, show k26.sz = 3 from rfl, Nat.add_zero] at hrow
  exact hrow
theorem zs_one (m : Nat) : ∀ q ∈ (Builtin.zeroCells (Value.agg #[.int .i64 0, .int .i64 0, .int .i64 0]).cells m).toList, q.oneCell' = true := by
  intro q hq
  simp only [Builtin.zeroCells, Value.cells, Array.toList_map, List.mem_map] at hq
  obtain ⟨i, _, rfl⟩ := hq
  have : i % 3 = 0 ∨ i % 3 = 1 ∨ i % 3 = 2 := by omega
  rcases this with e | e | e <;> simp [e] <;> rfl
theorem _root_.Go.Proofs.YthmenclkgngkkaaW.PrintWords.Kd.reps_imp26 {w w1 : World} {base : Nat} {ok ok' : Nat → Prop} {xs : List S26} {cs : List Value} (h : Reps (Kd.M k26 w base ok) 3 xs cs) : Reps (Kd.M k26 w1 base ok') 3 xs cs := ⟨h.1, fun j p hp => by rw [k26_openM (h.2 j p hp)]; exact k26_mkM _ _ _ _⟩
theorem clear26 {W : World} {base g n cap : Nat} {ok : Nat → Prop} {xs : List S26} (h : Kd.R k26 26 W base ok (.slice (some ⟨g, 0, none⟩) n cap) xs) (j : Nat) (hj : j < n) (c : Nat) :
    ∃ w1, (Builtin.clear_ #[22] 0 #[.slice (some ⟨g, j * 3, none⟩) (n - j) c]).run Try.prog W = .ok (.tuple #[]) w1 ∧
      Kd.R k26 26 w1 base ok (.slice (some ⟨g, 0, none⟩) j cap) (xs.take j) ∧ W.grownBy w1 (some g) := by
  obtain ⟨hn, hnc, _⟩ := Kd.R_reads' h
  have hjl : j ≤ xs.length := by omega
  have hjx : (xs.take j).length = j := by rw [List.length_take]; omega
  obtain ⟨hok, inner, hown, hr⟩ := Kd.R_take h hjl
  rw [hjx] at hown
  rcases hown.2 with ⟨hv, _⟩ | ⟨g', cap', cur, hv, hb, hh, hnc2, hcm, hcs, ht⟩
  · cases hv
  injection hv with ha hnn hc
  injection ha with ha
  injection ha with hg'
  subst hg'; subst hc
  have hcs : cur.size = cap * 3 := hcs
  have ht : cur.toList.take (j * 3) = inner := ht
  have hzl : (Builtin.zeroCells (Value.agg #[.int .i64 0, .int .i64 0, .int .i64 0]).cells (n - j)).toList.length = (n - j) * 3 := by simp [Builtin.zeroCells, Value.cells]
  have hz1 := zs_one (n - j)
  obtain ⟨zs, hzs⟩ : ∃ zs, zs = (Builtin.zeroCells (Value.agg #[.int .i64 0, .int .i64 0, .int .i64 0]).cells (n - j)).toList := ⟨_, rfl⟩
  rw [← hzs] at hzl hz1
  have hst := run_storeCells_cells (P := Try.prog) g (j * 3) zs 0 W (by
      intro k hk
      rw [cell_of_row W g _ cur 26 (0, 0) hh]
      have : j * 3 + 0 + k < cur.size := by omega
      simp; omega) (fun k _ => blk_frozen hh _) hz1
  simp only [Nat.add_zero] at hst
  have hzv : ∀ w, (zeroValue 26).run Try.prog w = .ok (.agg #[.int .i64 0, .int .i64 0, .int .i64 0]) w := Try.zeroValue26
  refine ⟨W.setCells g (j * 3) zs, ?_, ?_, ?_⟩
  · obtain ⟨m, hm⟩ : ∃ m, n - j = m + 1 := ⟨n - j - 1, by omega⟩
    rw [hm] at hzs ⊢
    simp [Builtin.clear_, run_underlying Try.underlying22, hzv, ← hzs, hst]
  · obtain ⟨cur', h3, h4, h5⟩ := setCells_row zs (j * 3) W cur hh (by rw [hzl, hcs]; omega)
    refine ⟨hok, inner, ?_, Kd.reps_imp26 hr⟩
    rw [hjx]
    refine ⟨hown.1, .inr ⟨g, cap, cur', rfl, hb, h3, hnc2, hcm, by rw [h4, hcs]; rfl, ?_⟩⟩
    show List.take (j * 3) _ = _
    rw [h5, List.append_assoc, List.take_append_of_le_length (by rw [List.length_take, Array.length_toList]; omega), List.take_take, Nat.min_self, ht]
  · obtain ⟨s1, s2, s3, s4⟩ := setCells_same g zs (j * 3) W
    exact ⟨s1, s2, s3, by rw [s4]; exact Nat.le_refl _, fun k _ hk => setCells_far zs _ k (fun he => hk (by rw [he]))⟩
end Go.Proofs.Ythmenclkgngkkaa.M
end
section
/- The walks of mail.For, slices.IndexFunc and slices.DeleteFunc. -/
set_option linter.unusedSimpArgs false
set_option linter.unusedVariables false
set_option linter.unusedSimpArgs false
set_option linter.unusedVariables false
namespace Go.Proofs.Ythmenclkgngkkaa.M
open Go.RowKit Go.Proofs.Ythmenclkgngkkaa.PA Go.Proofs.YthmenclkgngkkaaW.PrintWords Go.Proofs.YthmenclkgngkkaaW.PrintMore Go.Proofs.YthmenclkgngkkaaW.PrintLast
theorem other_ok (m : S26) (nd : Int) (B : Nat) (w : World) (hc : w.cell? ⟨B, 0, none⟩ = some (.int .i64 nd)) (hB : B < w.heap.size) :
  Calls Try.prog 44 #[.agg #[.int .i64 m.f0, .int .i64 m.f1, .int .i64 m.f2], .pointer (some ⟨B, 0, none⟩)] w fun e w' => e = .returned (.bool (m.f0 != nd)) ∧ Below w.heap.size w w' := by
 have hne : B ≠ w.heap.size := by omega
 go_enter Try.func44, Try.ntmps44
 go_wp2
 go_ret
 exact ⟨rfl, below_alloc (Below.refl _ _) _⟩
def ix (l : List S26) (nd : Int) (i : Nat) : Int := match l with | [] => -1 | m :: l => if m.f0 = nd then ix l nd (i + 1) else i
set_option maxRecDepth 100000 in
set_option maxHeartbeats 4000000 in
theorem index_ok (A : Option Addr) (c : Nat) (l : List S26) (nd : Int) (B : Nat) (w : World) (hr : Kd.C k26 w A l.length l) (hc : w.cell? ⟨B, 0, none⟩ = some (.int .i64 nd)) (hB : B < w.heap.size) (hl : l.length ≤ 1000000000000) :
  Calls Try.prog 65 #[.slice A l.length c, .func (.func 44) #[] #[.pointer (some ⟨B, 0, none⟩)]] w fun e w' => e = .returned (.int .i64 (ix l nd 0)) ∧ Below w.heap.size w w' := by
 have HR := Lib.hid hr
 have HC := Lib.hid hc
 clear hr hc
 go_enter Try.func65, Try.ntmps65
 go_wp2
 go_loopw [8] (fun v8 wr => ∃ i : Nat, i ≤ l.length ∧ v8 = .int .i64 i ∧ ix l nd 0 = ix (l.drop i) nd i ∧ Below w.heap.size w wr) (fun v8 _ => l.length - (intOf v8).toNat)
 case atStart => exact ⟨0, Nat.zero_le _, rfl, by simp, Below.refl _ _⟩
 case round =>
  obtain ⟨i, hi, rfl, hix, hb⟩ := hrel
  have HB := Lib.hid hb
  have HIX := Lib.hid hix
  clear hb hix
  by_cases hlt : i < l.length
  ·have di : decide ((i : Int) < (l.length : Int)) = true := decide_eq_true (by omega)
   obtain ⟨ad, e, q0, q1, q2⟩ := msg_at HR.out hlt
   subst e
   replace q0 := (HB.out.cell (World.block_lt_of_cell? w _ q0)).trans q0
   replace q1 := (HB.out.cell (World.block_lt_of_cell? w _ q1)).trans q1
   replace q2 := (HB.out.cell (World.block_lt_of_cell? w _ q2)).trans q2
   have hix := HIX.out
   rw [List.drop_eq_getElem_cons hlt, ix] at hix
   obtain ⟨x, hx⟩ : ∃ x, x = l[i] := ⟨_, rfl⟩
   rw [← hx] at q0 q1 q2 hix
   clear hx
   have hBr : B < wr.heap.size := Nat.lt_of_lt_of_le hB HB.out.size
   have hcr : wr.cell? ⟨B, 0, none⟩ = some (.int .i64 nd) := (HB.out.cell (p := ⟨B, 0, none⟩) hB).trans HC.out
   have HCR := Lib.hid hcr
   clear hcr
   by_cases hxn : x.f0 = nd
   ·rw [if_pos hxn] at hix
    have HIX2 := Lib.hid hix
    have hbq : (x.f0 != nd) = false := bne_eq_false_iff_eq.mpr hxn
    have hcall := other_ok x nd B wr HCR.out hBr
    rw [hbq] at hcall
    clear hix HIX hbq hxn
    go_wp2_with fail
    with_reducible refine hcall.mono ?_
    rintro e w1 ⟨rfl, hb1⟩
    have HB1 := Lib.hid (below_step HB.out hb1)
    clear hb1 hcall
    go_wp2
    exact ⟨⟨i + 1, by omega, by go_num, HIX2.out, HB1.out⟩, by simp [intOf]; omega⟩
   ·rw [if_neg hxn] at hix
    have HIX2 := Lib.hid hix
    have hbq : (x.f0 != nd) = true := bne_iff_ne.mpr hxn
    have hcall := other_ok x nd B wr HCR.out hBr
    rw [hbq] at hcall
    clear hix HIX hbq hxn
    go_wp2_with fail
    with_reducible refine hcall.mono ?_
    rintro e w1 ⟨rfl, hb1⟩
    have HB1 := Lib.hid (below_step HB.out hb1)
    clear hb1 hcall
    go_wp2
    go_ret
    exact ⟨by rw [HIX2.out]; rfl, HB1.out⟩
  ·have di : decide ((i : Int) < (l.length : Int)) = false := decide_eq_false (by omega)
   obtain rfl : i = l.length := by omega
   have hix := HIX.out
   rw [List.drop_length, ix] at hix
   have HIX2 := Lib.hid hix
   clear hix HIX
   go_wp2
   go_ret
   exact ⟨by rw [HIX2.out]; rfl, HB.out⟩
theorem own_ge {W : World} {base g n cap : Nat} {ok : Nat → Prop} {xs : List S26} (h : Kd.R k26 26 W base ok (.slice (some ⟨g, 0, none⟩) n cap) xs) : base ≤ g := by
 obtain ⟨_, inner, hown, _⟩ := h
 exact own_base hown g rfl
def kp (nd : Int) (m : S26) : Bool := m.f0 == nd
theorem ix_all (nd : Int) : ∀ (l : List S26) (i : Nat), ix l nd i = -1 → l.filter (kp nd) = l
 | [], _, _ => rfl
 | m :: l, i, h => by
  rw [ix] at h
  split at h
  ·rename_i q
   rw [List.filter_cons_of_pos (by simp [kp, q]), ix_all nd l (i + 1) h]
  ·omega
theorem ix_some (nd : Int) : ∀ (l : List S26) (i : Nat), ix l nd i ≠ -1 → ∃ k, k < l.length ∧ ix l nd i = ((i + k : Nat) : Int) ∧ (l.take (k + 1)).filter (kp nd) = l.take k
 | [], _, h => absurd rfl h
 | m :: l, i, h => by
  rw [ix] at h ⊢
  split at h
  ·rename_i q
   obtain ⟨k, h1, h2, h3⟩ := ix_some nd l (i + 1) h
   refine ⟨k + 1, by simp; omega, ?_, ?_⟩
   ·rw [if_pos q, h2]; omega
   ·rw [List.take_succ_cons, List.filter_cons_of_pos (by simp [kp, q]), h3, List.take_succ_cons]
  ·rename_i q
   refine ⟨0, by simp, by rw [if_neg q]; simp, ?_⟩
   rw [List.take_succ_cons, List.filter_cons_of_neg (by simp [kp, q])]
   simp
set_option maxRecDepth 100000 in
set_option maxHeartbeats 8000000 in
theorem delete_ok (g n c : Nat) (l : List S26) (nd : Int) (B base : Nat) (w : World) (hr : Kd.R k26 26 w base (fun _ => True) (.slice (some ⟨g, 0, none⟩) n c) l) (hc : w.cell? ⟨B, 0, none⟩ = some (.int .i64 nd)) (hB : B < base) (hbase : base ≤ w.heap.size) (hl : l.length ≤ 1000000000000) :
  Calls Try.prog 42 #[.slice (some ⟨g, 0, none⟩) n c, .func (.func 44) #[] #[.pointer (some ⟨B, 0, none⟩)]] w fun e w' => ∃ v, e = .returned v ∧ Kd.R k26 26 w' base (fun _ => True) v (l.filter (kp nd)) ∧ Below base w w' := by
 obtain ⟨hn, hnc, hC⟩ := Kd.R_reads' hr
 subst hn
 have hidx := index_ok (some ⟨g, 0, none⟩) c l nd B w hC hc (Nat.lt_of_lt_of_le hB hbase) hl
 have HR := Lib.hid hr
 have HC := Lib.hid hc
 clear hr hc hC
 by_cases hx : ix l nd 0 = -1
 ·have hf := ix_all nd l 0 hx
  rw [hx] at hidx
  rw [hf]
  clear hx hf
  go_enter Try.func42, Try.ntmps42
  go_wp2_with fail
  with_reducible refine hidx.mono ?_
  rintro e w1 ⟨rfl, hb1⟩
  have HB1 := Lib.hid (hb1.mono hbase)
  have HR1 := Lib.hid (Kd.R_below HR.out hb1)
  clear hb1 hidx
  go_wp2
  go_ret
  exact ⟨_, rfl, HR1.out, HB1.out⟩
 ·obtain ⟨k, hk, hxe, hft⟩ := ix_some nd l 0 hx
  rw [Nat.zero_add] at hxe
  rw [hxe] at hidx
  have HFT := Lib.hid hft
  have dk : ((k : Int) == -1) = false := beq_eq_false_iff_ne.mpr (by omega)
  clear hx hxe hft
  go_enter Try.func42, Try.ntmps42
  go_wp2_with fail
  with_reducible refine hidx.mono ?_
  rintro e w1 ⟨rfl, hb1⟩
  have HB1 := Lib.hid (hb1.mono hbase)
  have HR1 := Lib.hid (Kd.R_below HR.out hb1)
  clear hb1 hidx
  go_wp2_with fail
  have htl : (l.take k).length = k := by rw [List.length_take]; omega
  go_loopw [5, 6] (fun v5 v6 wq => ∃ (i j : Nat) (xs : List S26), v5 = .int .i64 i ∧ v6 = .int .i64 j ∧ i < j ∧ j ≤ l.length ∧ xs.length = l.length ∧ xs.take i = (l.take j).filter (kp nd) ∧ xs.drop j = l.drop j ∧ Kd.R k26 26 wq base (fun _ => True) (.slice (some ⟨g, 0, none⟩) l.length c) xs ∧ Below base w wq) (fun _ v6 _ => l.length - (intOf v6).toNat)
  case atStart => exact ⟨k, k + 1, l, rfl, by go_num, by omega, by omega, rfl, HFT.out.symm, rfl, HR1.out, HB1.out⟩
  case round =>
   clear HB1 HR1 htl dk
   obtain ⟨i, j, xs, rfl, rfl, hij, hj, hxl, hxt, hxd, hO, hb⟩ := hrel
   have HB := Lib.hid hb
   have HO := Lib.hid hO
   have HXT := Lib.hid hxt
   have HXD := Lib.hid hxd
   have HXL := Lib.hid hxl
   clear hb hO hxt hxd
   by_cases hlt : j < l.length
   ·have dj : decide ((j : Int) < (l.length : Int)) = true := decide_eq_true (by omega)
    have hjx : j < xs.length := by omega
    obtain ⟨q0, q1, q2⟩ := msg_own HO.out hjx
    have hxj : xs[j] = l[j] := by
     have h1 := List.drop_eq_getElem_cons hjx
     have h2 := List.drop_eq_getElem_cons hlt
     rw [HXD.out, h2] at h1
     injection h1 with h1 _
     exact h1.symm
    obtain ⟨x, hx⟩ : ∃ x, x = l[j] := ⟨_, rfl⟩
    rw [hxj, ← hx] at q0 q1 q2
    have htk : (l.take (j + 1)).filter (kp nd) = xs.take i ++ (if kp nd x then [x] else []) := by
     rw [List.take_succ_eq_append_getElem hlt, List.filter_append, ← HXT.out, ← hx]
     congr 1
     by_cases hk : kp nd x <;> simp [hk]
    have HTK := Lib.hid htk
    have hds : xs.drop (j + 1) = l.drop (j + 1) := by
     have h2 := List.drop_eq_getElem_cons hjx
     have h3 := List.drop_eq_getElem_cons hlt
     have h4 := HXD.out
     rw [h2, h3] at h4
     injection h4
    have HDS := Lib.hid hds
    have hBr : B < wr.heap.size := Nat.lt_of_lt_of_le hB (Nat.le_trans hbase HB.out.size)
    have hcr : wr.cell? ⟨B, 0, none⟩ = some (.int .i64 nd) := (HB.out.cell (p := ⟨B, 0, none⟩) hB).trans HC.out
    have HCR := Lib.hid hcr
    have hbr : base ≤ wr.heap.size := Nat.le_trans hbase HB.out.size
    clear hcr hxj hx htk hds
    have hbA : Below wr.heap.size wr (wr.alloc (.cells #[.int .i64 x.f0, .int .i64 x.f1, .int .i64 x.f2] 26)) := below_alloc (Below.refl _ _) _
    have hcall := other_ok x nd B (wr.alloc (.cells #[.int .i64 x.f0, .int .i64 x.f1, .int .i64 x.f2] 26)) ((hbA.cell (p := ⟨B, 0, none⟩) hBr).trans HCR.out) (Nat.lt_of_lt_of_le hBr hbA.size)
    have pbA : (wr.alloc (.cells #[.int .i64 x.f0, .int .i64 x.f1, .int .i64 x.f2] 26)).heap[wr.heap.size]? = some (.cells #[.int .i64 x.f0, .int .i64 x.f1, .int .i64 x.f2] 26 (0, 0)) := by show (wr.heap.push _)[wr.heap.size]? = _; simp
    by_cases hk : x.f0 = nd
    ·have hbq : (x.f0 != nd) = false := bne_eq_false_iff_eq.mpr hk
     rw [hbq] at hcall
     have htk := HTK.out
     rw [show kp nd x = true by simp [kp, hk], if_pos rfl] at htk
     have HTK2 := Lib.hid htk
     clear hk hbq htk HTK
     go_wp2_with fail
     with_reducible refine hcall.mono ?_
     rintro e w2 ⟨rfl, hb2⟩
     have hbW := below_step hbA hb2
     have HB2 := Lib.hid (below_then HB.out hbr hbW)
     have HO2 := Kd.R_below HO.out hbW
     have pb2 := (hb2.block _ (by simp)).trans pbA
     have p0 : w2.cell? ⟨wr.heap.size, 0, none⟩ = some (.int .i64 x.f0) := by rw [blk_cell pb2]; rfl
     have p1 : w2.cell? ⟨wr.heap.size, 1, none⟩ = some (.int .i64 x.f1) := by rw [blk_cell pb2]; rfl
     have p2 : w2.cell? ⟨wr.heap.size, 2, none⟩ = some (.int .i64 x.f2) := by rw [blk_cell pb2]; rfl
     have hil : i < xs.length := by omega
     obtain ⟨c0, c1, c2⟩ := msg_own HO2 hil
     have f0 := row_free HO2 (i * 3)
     have f1 := row_free HO2 (i * 3 + 1)
     have f2 := row_free HO2 (i * 3 + 2)
     have hgg := own_ge HO2
     have HO3 := Lib.hid (put3 HO2 i hil x)
     have HB3 := Lib.hid (((HB2.out.setCell (p := ⟨g, i * 3, none⟩) hgg (.int .i64 x.f0)).setCell (p := ⟨g, i * 3 + 1, none⟩) hgg (.int .i64 x.f1)).setCell (p := ⟨g, i * 3 + 2, none⟩) hgg (.int .i64 x.f2))
     have di : ((i : Int) < (l.length : Int)) = True := eq_true (by omega)
     have di0 : (0 ≤ (i : Int)) = True := eq_true (by omega)
     generalize xs[i].f0 = y0 at c0
     generalize xs[i].f1 = y1 at c1
     generalize xs[i].f2 = y2 at c2
     clear hcall hbA pbA hb2 hbW HB2 HO2 pb2 HO HB q0 q1 q2
     go_wp2
     refine ⟨⟨i + 1, j + 1, xs.set i x, by go_num, by go_num, by omega, by omega, by simp; omega, ?_, ?_, HO3.out, HB3.out⟩, by simp [intOf]; omega⟩
     ·rw [HTK2.out, List.take_succ_eq_append_getElem (by simp; omega), List.take_set, List.set_eq_of_length_le (by rw [List.length_take]; omega)]
      simp
     ·rw [List.drop_set_of_lt (by omega), HDS.out]
    ·have hbq : (x.f0 != nd) = true := bne_iff_ne.mpr hk
     rw [hbq] at hcall
     have htk := HTK.out
     rw [show kp nd x = false by simp [kp, hk], if_neg (by decide), List.append_nil] at htk
     have HTK2 := Lib.hid htk
     clear hk hbq htk HTK
     go_wp2_with fail
     with_reducible refine hcall.mono ?_
     rintro e w2 ⟨rfl, hb2⟩
     have hbW := below_step hbA hb2
     have HB2 := Lib.hid (below_then HB.out hbr hbW)
     have HO2 := Lib.hid (Kd.R_below HO.out hbW)
     clear hcall hbA pbA hb2 hbW HO HB q0 q1 q2
     go_wp2
     exact ⟨⟨i, j + 1, xs, rfl, by go_num, by omega, by omega, hxl, HTK2.out.symm, HDS.out, HO2.out, HB2.out⟩, by simp [intOf]; omega⟩
   ·have dj : decide ((j : Int) < (l.length : Int)) = false := decide_eq_false (by omega)
    obtain rfl : j = l.length := by omega
    have hxt := HXT.out
    rw [List.take_length] at hxt
    have HXT2 := Lib.hid hxt
    obtain ⟨w3, hrun, hO3, hg3⟩ := clear26 HO.out i hij (c - i)
    have hb3 : Below base w wr := HB.out
    have hb4 : Below base w w3 := hb3.grown hg3 (Nat.le_trans hbase hb3.size) (fun k hk => by injection hk with hk; rw [← hk]; exact own_ge HO.out)
    have HO3 := Lib.hid hO3
    have HB3 := Lib.hid hb4
    clear hxt HXT hO3 hb3 hb4 hg3 HO HB
    go_wp2
    go_ret
    exact ⟨_, rfl, by rw [← HXT2.out]; exact HO3.out, HB3.out⟩
theorem delete_any (A : Option Addr) (n c : Nat) (l : List S26) (nd : Int) (B base : Nat) (w : World) (hr : Kd.R k26 26 w base (fun _ => True) (.slice A n c) l) (hc : w.cell? ⟨B, 0, none⟩ = some (.int .i64 nd)) (hB : B < base) (hbase : base ≤ w.heap.size) (hl : l.length ≤ 1000000000000) :
  Calls Try.prog 42 #[.slice A n c, .func (.func 44) #[] #[.pointer (some ⟨B, 0, none⟩)]] w fun e w' => ∃ v, e = .returned v ∧ Kd.R k26 26 w' base (fun _ => True) v (l.filter (kp nd)) ∧ Below base w w' := by
 obtain ⟨_, inner, hown, _⟩ := id hr
 rcases hown.2 with ⟨hv, hl0⟩ | ⟨g, cap, cur, hv, _⟩
 ·injection hv with hA hn hcc
  subst hA; subst hn; subst hcc
  have hl0 : l = [] := by
   have := (Kd.R_reads' hr).1
   exact List.length_eq_zero_iff.1 this.symm
  subst hl0
  have hidx := index_ok none 0 [] nd B w (Kd.R_reads' hr).2.2 hc (Nat.lt_of_lt_of_le hB hbase) (by simp)
  have hidx : Calls Try.prog 65 #[.slice none 0 0, .func (.func 44) #[] #[.pointer (some ⟨B, 0, none⟩)]] w fun e w' => e = .returned (.int .i64 (-1)) ∧ Below w.heap.size w w' := hidx
  clear hr hc
  go_enter Try.func42, Try.ntmps42
  go_wp2_with fail
  with_reducible refine hidx.mono ?_
  rintro e w1 ⟨rfl, hb1⟩
  have HB1 := Lib.hid (hb1.mono hbase)
  clear hb1 hidx
  go_wp2
  go_ret
  exact ⟨_, rfl, Kd.R_nil _ _ _ _ _, HB1.out⟩
 ·injection hv with hA hn hcc
  subst hA; subst hcc
  exact delete_ok g n c l nd B base w hr hc hB hbase hl
def mail_For.f (l : List S26) (nd : Int) : Option (List S26) := if l.length ≤ 1000000000000 then some (l.filter (kp nd)) else none
set_option maxRecDepth 100000 in
set_option maxHeartbeats 4000000 in
theorem mail_For.calls (A0 : Option Addr) (c0 : Nat) (l0 : List S26) (a1 : Int) (r : List S26) (w : World) (hr0 : Kd.C k26 w A0 l0.length l0) (hc0 : l0.length ≤ c0) (h : mail_For.f l0 a1 = some r) :
  Calls Try.prog 14 #[.slice A0 l0.length c0, .int .i64 a1] w fun e w' => ∃ v0_ : Value, e = .returned v0_ ∧ Kd.R k26 26 w' w.heap.size (fun _ => True) v0_ r ∧ Below w.heap.size w w' := by
 unfold mail_For.f at h
 split at h
 ·rename_i hl
  injection h with h
  subst h
  have hbA : Below w.heap.size w (w.alloc (.cells #[.int .i64 a1] 3)) := below_alloc (Below.refl _ _) _
  have hcl := clone26 A0 c0 l0 (w.alloc (.cells #[.int .i64 a1] 3)) (Kd.C_below hr0 hbA) (by omega)
  have hcell : (w.alloc (.cells #[.int .i64 a1] 3)).cell? ⟨w.heap.size, 0, none⟩ = some (.int .i64 a1) := by
   have : (w.alloc (.cells #[.int .i64 a1] 3)).heap[w.heap.size]? = some (.cells #[.int .i64 a1] 3 (0, 0)) := by show (w.heap.push _)[w.heap.size]? = _; simp
   rw [blk_cell this]; rfl
  have HCell := Lib.hid hcell
  have hlt : w.heap.size < (w.alloc (.cells #[.int .i64 a1] 3)).heap.size := by simp
  clear hr0 hcell
  go_enter Try.func14, Try.ntmps14
  go_wp2_with fail
  with_reducible refine hcl.mono ?_
  rintro e w1 ⟨v, rfl, hR1, hb1⟩
  obtain ⟨A1, c1, rfl⟩ := Kd.R_slice hR1
  have hc1 := (hb1.cell (p := ⟨w.heap.size, 0, none⟩) hlt).trans HCell.out
  have hdel := delete_any A1 l0.length c1 l0 a1 w.heap.size _ w1 hR1 hc1 hlt hb1.size hl
  have HB1 := Lib.hid hb1
  clear hcl hR1 hc1 hb1
  go_wp2_with fail
  with_reducible refine hdel.mono ?_
  rintro e w2 ⟨v2, rfl, hR2, hb2⟩
  have HB2 := Lib.hid (below_step hbA (HB1.out.trans hb2))
  have HR2 := Lib.hid (Kd.R_lower hR2 (Nat.le_of_lt hlt))
  clear hdel hR2 hb2 HB1 hbA
  go_wp2
  go_ret
  exact ⟨_, rfl, HR2.out, HB2.out⟩
 ·cases h
end Go.Proofs.Ythmenclkgngkkaa.M
end
