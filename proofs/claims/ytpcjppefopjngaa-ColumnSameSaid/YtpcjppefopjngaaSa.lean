/- Both tell the same. -/
import Derived.Test.YtpcjppefopjngaaLz
set_option linter.unusedSimpArgs false
set_option linter.unusedVariables false
namespace Go.Proofs.Ytpcjppefopjngaa.C
open Go.RowKit Go.Proofs.Ytpcjppefopjngaa.Sk Go.Proofs.Ytpcjppefopjngaa.PA Go.Proofs.Ytpcjppefopjngaa.Mp Go.Proofs.YtpcjppefopjngaaW.PrintWords Go.Proofs.YtpcjppefopjngaaW.PrintLast Go.Proofs.YtpcjppefopjngaaW.PrintMore
theorem drawn_below {w w' : World} (h : Drawn0 w w') : Below w.heap.size w w' := by
 obtain ⟨k, rfl⟩ := h
 exact pw_below_drewN (Below.refl _ _) k
set_option maxRecDepth 100000 in
set_option maxHeartbeats 8000000 in
theorem same_ok (w : World) {own bad : Nat → Prop} {n e : Int} {g r : Nat} {rs : List Cl} (h : Sys w own bad n e g r rs) (nm : ByteArray) (sd : Int) (hn : nm.size ≤ maxLen) (hs : 0 ≤ sd ∧ sd ≤ 255) :
  Calls Try.prog 12 #[.pointer (some ⟨g, 0, none⟩), .pointer (some ⟨r, 0, none⟩), .agg #[.string nm, .int .u8 sd]] w fun e_ w' => e_ = .returned (.bool true) ∧ Below w.heap.size w w' := by
 have hA : Below w.heap.size w (w.alloc (.cells #[.string nm, .int .u8 sd] 25)) := below_alloc (Below.refl _ w) _
 have HA := Lib.hid hA
 have H0 := Lib.hid (h.below hA)
 have h24 := h.wf.1.n24
 have HWF := Lib.hid h.wf
 have HBX : Hid ((w.alloc (.cells #[.string nm, .int .u8 sd] 25)).heap[w.heap.size]? = some (.cells #[.string nm, .int .u8 sd] 25 (0, 0))) := Lib.hid (heap_alloc_new w _)
 obtain ⟨L, hL⟩ : ∃ L, L = rs.map Cl.k25 := ⟨_, rfl⟩
 obtain ⟨m, hm⟩ : ∃ m, m = rs.length := ⟨_, rfl⟩
 have hLm : L.length = m := by rw [hL, hm, List.length_map]
 have hKW : ∀ x ∈ L, x.f0.size ≤ maxLen ∧ 0 ≤ x.f1 ∧ x.f1 ≤ 255 := by
  intro x hx
  rw [hL] at hx
  obtain ⟨k, hk, rfl⟩ := List.mem_map.1 hx
  have := h.wf.1.ok k hk
  have h8 : k.nm.size ≤ 8 := by
   have q := this.nm
   unfold nmok at q
   simp only [Bool.and_eq_true, decide_eq_true_eq] at q
   exact q.1.2
  have q1 := this.s1
  have q3 := this.s3
  refine ⟨?_, ?_, ?_⟩
  ·show k.nm.size ≤ maxLen
   unfold maxLen; omega
  ·show 0 ≤ k.sd
   omega
  ·show k.sd ≤ 255
   omega
 have HKW := Lib.hid hKW
 have HT := Lib.hid (fun (W : World) (q : Below (w.alloc (.cells #[.string nm, .int .u8 sd] 25)).heap.size (w.alloc (.cells #[.string nm, .int .u8 sd] 25)) W) => (H0.out.below q).tKeys)
 have HR := Lib.hid (H0.out.rKeys)
 rw [← hL, ← hm] at HT HR
 rw [← hm] at h24
 have HL := Lib.hid hL
 have HLM := Lib.hid hLm
 clear h hL hm hLm hA hKW
 go_enter Try.func12, Try.ntmps12
 go_wp2_with fail
 refine HR.out.mono ?_
 rintro e_ w1 ⟨A7, c7, rfl, hC7, hc7, hb1⟩
 have HB1 := Lib.hid hb1
 have HC7 := Lib.hid hC7
 clear hC7 hb1
 go_wp2_with fail
 refine (HT.out w1 HB1.out).mono ?_
 rintro e_ w2 ⟨A8, c8, rfl, hC8, hc8, hb2⟩
 have HB2 := Lib.hid (below_then HB1.out HB1.out.size hb2)
 have HC8 := Lib.hid hC8
 have HC72 := Lib.hid (Kd.C_below HC7.out hb2)
 clear hC8 hb2
 have hSK := reticuleref04_SameKeys.calls (L.length + 1) A8 c8 L A7 c7 L true w2 (by rw [HLM.out]; exact HC8.out) (by rw [HLM.out]; exact hc8) (by rw [HLM.out]; exact HC72.out) (by rw [HLM.out]; exact hc7) (sk_f L (by rw [HLM.out]; omega))
 rw [HLM.out] at hSK
 have HSK := Lib.hid hSK
 clear hSK
 go_wp2_with fail
 refine HSK.out.mono ?_
 rintro e_ w3 ⟨rfl, hd⟩
 have HB3 := Lib.hid (below_then HB2.out HB2.out.size (drawn_below hd))
 have HL73 := Lib.hid (Kd.C_below HC72.out (drawn_below hd))
 clear hd
 go_wp2_with fail
 obtain ⟨wy, hwy⟩ : ∃ wy, wy = w3 := ⟨_, rfl⟩
 rw [← hwy] at HB3 HL73 ⊢
 clear hwy
 have hbx := (HB3.out.block _ (by simp)).trans HBX.out
 have x0 : wy.cell? ⟨w.heap.size, 0, none⟩ = some (.string nm) := by rw [cell_of hbx]; rfl
 have x1 : wy.cell? ⟨w.heap.size, 1, none⟩ = some (.int .u8 sd) := by rw [cell_of hbx]; rfl
 have HLL : Hid (L.length ≤ 24) := Lib.hid (by rw [HLM.out]; exact h24)
 have HL7 : Hid (∀ W, Below wy.heap.size wy W → ReadsRow E2 2 W A7 m L) := Lib.hid fun W q => kC_reads (Kd.C_below HL73.out q)
 have HBY := Lib.hid (below_then HA.out HA.out.size HB3.out)
 have HSY := Lib.hid (H0.out.below HB3.out)
 clear hbx
 have hll := HLL.out
 refine start_ (n := 7) (S := fun w' => w'.cell? ⟨w.heap.size, 0, none⟩ = some (.string nm) ∧ w'.cell? ⟨w.heap.size, 1, none⟩ = some (.int .u8 sd)) (ds := [5]) #[false,false,false,false,false,false,false] (by kernel_rfl) rfl rfl ⟨x0, x1⟩ (fun hHeld => ?_)
 refine pure_ (i := 1) (N := some 23) (v := ?_) (a' := ?_) #[false,true,false,false,false,false,false] rfl rfl (by kernel_rfl) (fun _ _ _ h => h) (Or.inl ⟨by rfl, ?_⟩) ?_ ?_
 rotate_left
 ·intro w'
  go_simp
  with_reducible rfl
 rotate_left
 ·simp only [Act.put, List.setIfInBounds_toArray, List.set_cons_zero, List.set_cons_succ, i64_w, i32_w]
  rfl
 refine take_ (i := 3) (N := some 25) (v := ?_) (a' := ?_) #[false,true,false,true,false,false,false] rfl rfl (by kernel_rfl) (fun _ _ _ h => h) (Or.inl ⟨by rfl, ?_⟩) hHeld ?_ ?_
 rotate_left
 ·rintro w' ⟨s0, s1⟩
  go_simp
  with_reducible rfl
 rotate_left
 ·simp only [Act.put, List.setIfInBounds_toArray, List.set_cons_zero, List.set_cons_succ, i64_w, i32_w]
  rfl
 refine join_ (σ := Nat × Value × Nat) 2 #[true,true,true,true,true,false,false] (fun s => [(22, .slice (some ⟨s.1, 0, none⟩) 0 0), (24, s.2.1), (26, .slice (some ⟨s.2.2, 0, none⟩) 1 1)]) (fun s w' => FF wy w' L ⟨nm, sd⟩ s.2.1 s.2.2) ?_ ?_
 rotate_left
 ·intro hCont
  refine two_ (i := 0) (j := 4) (Ni := some 22) (Nj := some 26) #[true,true,false,true,false,false,false] #[false,true,false,true,true,false,false] rfl rfl rfl rfl (by kernel_rfl) (by decide) (by decide) (fun K hK => ?_) (fun K hK => ?_)
  ·skip
   refine krow0_step (by rfl) rfl rfl ?_
   intro B1 zz1 hb1 hl1 hR1 hS1
   have hY1 : Below wy.heap.size wy zz1 := below_step (below_drew1 (Below.refl wy.heap.size wy)) hS1
   refine hK.out _ _ ⟨pw_cell_below hY1 x0, pw_cell_below hY1 x1⟩ (fun hHeld => ?_)
   clear hK K
   refine norm_ (a' := ?_) ?_ ?_
   rotate_left
   ·show Act.put _ (some 22) _ = _
    simp only [Act.put, List.setIfInBounds_toArray, List.set_cons_zero, List.set_cons_succ, i64_w, i32_w]
    rfl
   refine two_ (i := 2) (j := 4) (Ni := some 24) (Nj := some 26) #[true,true,true,true,false,false,false] #[true,true,false,true,true,false,false] rfl rfl rfl rfl (by kernel_rfl) (by decide) (by decide) (fun K hK => ?_) (fun K hK => ?_)
   ·skip
    have hRz : Kd.R k25 25 zz1 wy.heap.size (fun _ => True) (.slice (some ⟨B1, 0, none⟩) 0 0) [] := Kd.R_lower hR1 (below_drew1 (Below.refl wy.heap.size wy)).size
    refine Kd.R_append_rows_step k25 (Rr := E2) (w0 := wy) wy.heap.size (by rfl) (.tmp 22) (.tmp 23) 40 25 (.agg #[(.string ⟨#[]⟩), (.int .u8 0)]) 24 rfl Try.underlying40 info25 rfl (by decide) (by decide) (.slice (some ⟨B1, 0, none⟩) 0 0) [] L A7 m c7 (fun _ => True) (fun _ => False) rfl rfl hRz (HL7.out _ hY1) ?aK (fun _ h => h.elim) (fun _ _ => trivial) hY1 hY1.size ?aL ?_
    (case aK => (intro z cs h; rw [show cs = e2 z from h]; exact k25_mkM _ _ _ z))
    (case aL => (first | omega | (simp only [List.length_append, List.length_map, List.length_cons, List.length_nil]; omega)))
    intro v2 zz2 hV2 hY2 hG2 _
    rw [List.nil_append] at hV2
    have hS2 : zz1.grownBy zz2 (some B1) := hG2
    refine hK.out _ _ ⟨pw_cell_below hY2 x0, pw_cell_below hY2 x1⟩ (fun hHeld => ?_)
    clear hK K
    refine norm_ (a' := ?_) ?_ ?_
    rotate_left
    ·show Act.put _ (some 24) _ = _
     simp only [Act.put, List.setIfInBounds_toArray, List.set_cons_zero, List.set_cons_succ, i64_w, i32_w]
     rfl
    refine one_ (i := 4) (N := some 26) #[true,true,true,true,true,false,false] rfl rfl (by kernel_rfl) (by decide) (fun K hK => ?_)
    refine krow1_step ⟨nm, sd⟩ (by rfl) rfl rfl (by rfl) ?_
    intro B3 zz3 hb3 hl3 hX3 hS3
    have hY3 : Below wy.heap.size wy zz3 := below_step hY2 hS3
    refine hK.out _ _ ⟨pw_cell_below hY3 x0, pw_cell_below hY3 x1⟩ (fun hHeld => ?_)
    clear hK K
    refine norm_ (a' := ?_) ?_ ?_
    rotate_left
    ·show Act.put _ (some 26) _ = _
     simp only [Act.put, List.setIfInBounds_toArray, List.set_cons_zero, List.set_cons_succ, i64_w, i32_w]
     rfl
    exact norm_ (by simp only [putAll, Act.put, List.setIfInBounds_toArray, List.set_cons_zero, List.set_cons_succ]) (hCont (B1, v2, B3) _ ⟨hY3, (Kd.R_below hV2 hS3), hX3⟩)
   ·skip
    refine krow1_step ⟨nm, sd⟩ (by rfl) rfl rfl (by rfl) ?_
    intro B2 zz2 hb2 hl2 hX2 hS2
    have hY2 : Below wy.heap.size wy zz2 := below_step hY1 hS2
    refine hK.out _ _ ⟨pw_cell_below hY2 x0, pw_cell_below hY2 x1⟩ (fun hHeld => ?_)
    clear hK K
    refine norm_ (a' := ?_) ?_ ?_
    rotate_left
    ·show Act.put _ (some 26) _ = _
     simp only [Act.put, List.setIfInBounds_toArray, List.set_cons_zero, List.set_cons_succ, i64_w, i32_w]
     rfl
    refine one_ (i := 2) (N := some 24) #[true,true,true,true,true,false,false] rfl rfl (by kernel_rfl) (by decide) (fun K hK => ?_)
    have hRz : Kd.R k25 25 zz2 wy.heap.size (fun _ => True) (.slice (some ⟨B1, 0, none⟩) 0 0) [] := Kd.R_lower (Kd.R_below hR1 hS2) (below_drew1 (Below.refl wy.heap.size wy)).size
    refine Kd.R_append_rows_step k25 (Rr := E2) (w0 := wy) wy.heap.size (by rfl) (.tmp 22) (.tmp 23) 40 25 (.agg #[(.string ⟨#[]⟩), (.int .u8 0)]) 24 rfl Try.underlying40 info25 rfl (by decide) (by decide) (.slice (some ⟨B1, 0, none⟩) 0 0) [] L A7 m c7 (fun _ => True) (fun _ => False) rfl rfl hRz (HL7.out _ hY2) ?aK (fun _ h => h.elim) (fun _ _ => trivial) hY2 hY2.size ?aL ?_
    (case aK => (intro z cs h; rw [show cs = e2 z from h]; exact k25_mkM _ _ _ z))
    (case aL => (first | omega | (simp only [List.length_append, List.length_map, List.length_cons, List.length_nil]; omega)))
    intro v3 zz3 hV3 hY3 hG3 _
    rw [List.nil_append] at hV3
    have hS3 : zz2.grownBy zz3 (some B1) := hG3
    refine hK.out _ _ ⟨pw_cell_below hY3 x0, pw_cell_below hY3 x1⟩ (fun hHeld => ?_)
    clear hK K
    refine norm_ (a' := ?_) ?_ ?_
    rotate_left
    ·show Act.put _ (some 24) _ = _
     simp only [Act.put, List.setIfInBounds_toArray, List.set_cons_zero, List.set_cons_succ, i64_w, i32_w]
     rfl
    exact norm_ (by simp only [putAll, Act.put, List.setIfInBounds_toArray, List.set_cons_zero, List.set_cons_succ]) (hCont (B1, v3, B2) _ ⟨hY3, hV3, ((hS3.block _ hl2 (by intro e; injection e with e; have := hl1; omega)).trans hX2)⟩)
  ·skip
   refine krow1_step ⟨nm, sd⟩ (by rfl) rfl rfl (by rfl) ?_
   intro B1 zz1 hb1 hl1 hX1 hS1
   have hY1 : Below wy.heap.size wy zz1 := below_step (below_drew1 (Below.refl wy.heap.size wy)) hS1
   refine hK.out _ _ ⟨pw_cell_below hY1 x0, pw_cell_below hY1 x1⟩ (fun hHeld => ?_)
   clear hK K
   refine norm_ (a' := ?_) ?_ ?_
   rotate_left
   ·show Act.put _ (some 26) _ = _
    simp only [Act.put, List.setIfInBounds_toArray, List.set_cons_zero, List.set_cons_succ, i64_w, i32_w]
    rfl
   refine one_ (i := 0) (N := some 22) #[true,true,false,true,true,false,false] rfl rfl (by kernel_rfl) (by decide) (fun K hK => ?_)
   refine krow0_step (by rfl) rfl rfl ?_
   intro B2 zz2 hb2 hl2 hR2 hS2
   have hY2 : Below wy.heap.size wy zz2 := below_step hY1 hS2
   refine hK.out _ _ ⟨pw_cell_below hY2 x0, pw_cell_below hY2 x1⟩ (fun hHeld => ?_)
   clear hK K
   refine norm_ (a' := ?_) ?_ ?_
   rotate_left
   ·show Act.put _ (some 22) _ = _
    simp only [Act.put, List.setIfInBounds_toArray, List.set_cons_zero, List.set_cons_succ, i64_w, i32_w]
    rfl
   refine one_ (i := 2) (N := some 24) #[true,true,true,true,true,false,false] rfl rfl (by kernel_rfl) (by decide) (fun K hK => ?_)
   have hRz : Kd.R k25 25 zz2 wy.heap.size (fun _ => True) (.slice (some ⟨B2, 0, none⟩) 0 0) [] := Kd.R_lower hR2 hY1.size
   refine Kd.R_append_rows_step k25 (Rr := E2) (w0 := wy) wy.heap.size (by rfl) (.tmp 22) (.tmp 23) 40 25 (.agg #[(.string ⟨#[]⟩), (.int .u8 0)]) 24 rfl Try.underlying40 info25 rfl (by decide) (by decide) (.slice (some ⟨B2, 0, none⟩) 0 0) [] L A7 m c7 (fun _ => True) (fun _ => False) rfl rfl hRz (HL7.out _ hY2) ?aK (fun _ h => h.elim) (fun _ _ => trivial) hY2 hY2.size ?aL ?_
   (case aK => (intro z cs h; rw [show cs = e2 z from h]; exact k25_mkM _ _ _ z))
   (case aL => (first | omega | (simp only [List.length_append, List.length_map, List.length_cons, List.length_nil]; omega)))
   intro v3 zz3 hV3 hY3 hG3 _
   rw [List.nil_append] at hV3
   have hS3 : zz2.grownBy zz3 (some B2) := hG3
   refine hK.out _ _ ⟨pw_cell_below hY3 x0, pw_cell_below hY3 x1⟩ (fun hHeld => ?_)
   clear hK K
   refine norm_ (a' := ?_) ?_ ?_
   rotate_left
   ·show Act.put _ (some 24) _ = _
    simp only [Act.put, List.setIfInBounds_toArray, List.set_cons_zero, List.set_cons_succ, i64_w, i32_w]
    rfl
   exact norm_ (by simp only [putAll, Act.put, List.setIfInBounds_toArray, List.set_cons_zero, List.set_cons_succ]) (hCont (B2, v3, B1) _ ⟨hY3, hV3, ((hS3.block _ (Nat.lt_of_lt_of_le hl1 hS2.size) (by intro e; injection e with e; omega)).trans ((hS2.block _ hl1).trans hX1))⟩)
 rintro ⟨B0, v, Bx⟩ u hF
 have hHeld : True := trivial
 refine norm_ (a' := ?_) ?_ ?_
 rotate_left
 ·simp only [putAll, Act.put, List.setIfInBounds_toArray, List.set_cons_zero, List.set_cons_succ]
  rfl
 refine last_ (i := 5) (N := some 27) #[true,true,true,true,true,true,false] rfl rfl (by kernel_rfl) (by decide) (fun K hK => ?_)
 refine Kd.R_append_rows_step k25 (Rr := E2) (w0 := wy) wy.heap.size (by rfl) (.tmp 24) (.tmp 26) 40 25 (.agg #[(.string ⟨#[]⟩), (.int .u8 0)]) 24 rfl Try.underlying40 info25 rfl (by decide) (by decide) v L [⟨nm, sd⟩] (some ⟨Bx, 0, none⟩) 1 1 (fun _ => True) (fun k => some k ≠ v.ownBlock) rfl rfl hF.own (kone_reads hF.box) ?aK (fun _ h => ⟨trivial, h⟩) (fun _ _ => trivial) hF.bl hF.bl.size ?aL ?_
 (case aK => (intro z cs h; rw [show cs = e2 z from h]; exact k25_mkM _ _ _ z))
 (case aL => (first | omega | (simp only [List.length_append, List.length_map, List.length_cons, List.length_nil]; omega)))
 intro v9 zz9 hV9 hY9 hG9 _
 refine hK.out _ _ ?_
 clear hK K
 refine norm_ (a' := ?_) ?_ ?_
 rotate_left
 ·show Act.put _ (some 27) _ = _
  simp only [Act.put, List.setIfInBounds_toArray, List.set_cons_zero, List.set_cons_succ, i64_w, i32_w]
  rfl
 refine pure_ (i := 6) (N := some 7) (v := ?_) (a' := ?_) #[true,true,true,true,true,true,true] rfl rfl (by kernel_rfl) (fun _ _ _ h => h) (Or.inl ⟨by rfl, ?_⟩) ?_ ?_
 rotate_left
 ·intro w'
  go_simp
  with_reducible rfl
 rotate_left
 ·simp only [Act.put, List.setIfInBounds_toArray, List.set_cons_zero, List.set_cons_succ, i64_w, i32_w]
  rfl
 refine done_ (by kernel_rfl) ?_
 go_wp2_with fail
 have hL1 : (L ++ [(⟨nm, sd⟩ : S25)]).length = m + 1 := by rw [List.length_append, HLM.out]; rfl
 have HKL : Hid (∀ x ∈ L ++ [(⟨nm, sd⟩ : S25)], x.f0.size ≤ maxLen ∧ 0 ≤ x.f1 ∧ x.f1 ≤ 255) := Lib.hid fun x hx => by
  rcases List.mem_append.1 hx with hx | hx
  ·exact HKW.out x hx
  ·rw [List.mem_singleton.1 hx]; exact ⟨hn, hs⟩
 generalize L ++ [(⟨nm, sd⟩ : S25)] = L2 at hV9 hL1 HKL
 obtain ⟨A9, c9, rfl⟩ := Kd.R_slice hV9
 obtain ⟨_, hc9, hC9⟩ := Kd.R_reads' hV9
 rw [hL1] at hc9 hC9 ⊢
 have HC9 := Lib.hid hC9
 have HS := Lib.hid (HSY.out.below hY9)
 have HB9 := Lib.hid (below_then HBY.out HBY.out.size hY9)
 have HL1 := Lib.hid hL1
 have hm24 : m ≤ 24 := h24
 have HWF2 := HWF
 clear hV9 hY9 hG9 hF hC9 hL1 x0 x1 hHeld hll
 go_wp2_with fail
 go_loopw [8] (fun v8 wr => ∃ i : Nat, i ≤ m + 1 ∧ v8 = I i ∧ Below zz9.heap.size zz9 wr) (fun v8 _ => m + 1 - (intOf v8).toNat)
 case atStart => exact ⟨0, by omega, rfl, Below.refl _ _⟩
 case round =>
  obtain ⟨i, hi, rfl, hbr⟩ := hrel
  have HBR := Lib.hid hbr
  clear hbr
  by_cases hlt : i < m + 1
  ·have d1 : decide ((i : Int) < ((m + 1 : Nat) : Int)) = true := decide_eq_true (by omega)
   obtain ⟨ad, e, q0, q1⟩ := key_at HC9.out (i := i) (by rw [HL1.out]; exact hlt)
   subst e
   obtain ⟨hkn, hks⟩ := HKL.out _ (List.getElem_mem (by rw [HL1.out]; exact hlt) : L2[i]'(by rw [HL1.out]; exact hlt) ∈ L2)
   generalize L2[i]'(by rw [HL1.out]; exact hlt) = x at q0 q1 hkn hks
   obtain ⟨kn, ks⟩ := x
   replace q0 := (HBR.out.cell (World.block_lt_of_cell? zz9 _ q0)).trans q0
   replace q1 := (HBR.out.cell (World.block_lt_of_cell? zz9 _ q1)).trans q1
   have HLN := Lib.hid (show (list rs kn ks).length ≤ 1000000 from Nat.le_trans (list_len HWF.out.1 HWF.out.2 kn ks) (by omega))
   go_wp2_with fail
   have HB0 := Lib.hid (below_then HBR.out HBR.out.size (below_drew1 (Below.refl wr.heap.size wr)))
   have k0 : wr.drew.cell? (ad.add (i * 2)) = some (.string kn) := q0
   have k1 : wr.drew.cell? ⟨(ad.add (i * 2)).block, (ad.add (i * 2)).off + 1, none⟩ = some (.int .u8 ks) := q1
   clear q0 q1
   refine start_ (n := 29) (S := fun w' => w'.cell? (ad.add (i * 2)) = some (.string kn) ∧ w'.cell? ⟨(ad.add (i * 2)).block, (ad.add (i * 2)).off + 1, none⟩ = some (.int .u8 ks)) (ds := []) #[false,false,false,false,false,false,false,false,false,false,false,false,false,false,false,false,false,false,false,false,false,false,false,false,false,false,false,false,false] (by kernel_rfl) rfl rfl ⟨k0, k1⟩ (fun hHeld => ?_)
   refine pure_ (i := 0) (N := some 34) (v := ?_) (a' := ?_) #[true,false,false,false,false,false,false,false,false,false,false,false,false,false,false,false,false,false,false,false,false,false,false,false,false,false,false,false,false] rfl rfl (by kernel_rfl) (fun _ _ _ h => h) (Or.inl ⟨by rfl, ?_⟩) ?_ ?_
   rotate_left
   ·intro w'
    go_simp
    with_reducible rfl
   rotate_left
   ·simp only [Act.put, List.setIfInBounds_toArray, List.set_cons_zero, List.set_cons_succ, i64_w, i32_w]
    rfl
   refine pure_ (i := 1) (N := some 35) (v := ?_) (a' := ?_) #[true,true,false,false,false,false,false,false,false,false,false,false,false,false,false,false,false,false,false,false,false,false,false,false,false,false,false,false,false] rfl rfl (by kernel_rfl) (fun _ _ _ h => h) (Or.inl ⟨by rfl, ?_⟩) ?_ ?_
   rotate_left
   ·intro w'
    go_simp
    with_reducible rfl
   rotate_left
   ·simp only [Act.put, List.setIfInBounds_toArray, List.set_cons_zero, List.set_cons_succ, i64_w, i32_w]
    rfl
   refine pure_ (i := 2) (N := some 36) (v := ?_) (a' := ?_) #[true,true,true,false,false,false,false,false,false,false,false,false,false,false,false,false,false,false,false,false,false,false,false,false,false,false,false,false,false] rfl rfl (by kernel_rfl) (fun _ _ _ h => h) (Or.inl ⟨by rfl, ?_⟩) ?_ ?_
   rotate_left
   ·intro w'
    go_simp
    with_reducible rfl
   rotate_left
   ·simp only [Act.put, List.setIfInBounds_toArray, List.set_cons_zero, List.set_cons_succ, i64_w, i32_w]
    rfl
   refine pure_ (i := 3) (N := some 37) (v := ?_) (a' := ?_) #[true,true,true,true,false,false,false,false,false,false,false,false,false,false,false,false,false,false,false,false,false,false,false,false,false,false,false,false,false] rfl rfl (by kernel_rfl) (fun _ _ _ h => h) (Or.inl ⟨by rfl, ?_⟩) ?_ ?_
   rotate_left
   ·intro w'
    go_simp
    with_reducible rfl
   rotate_left
   ·simp only [Act.put, List.setIfInBounds_toArray, List.set_cons_zero, List.set_cons_succ, i64_w, i32_w]
    rfl
   refine pure_ (i := 6) (N := some 40) (v := ?_) (a' := ?_) #[true,true,true,true,false,false,true,false,false,false,false,false,false,false,false,false,false,false,false,false,false,false,false,false,false,false,false,false,false] rfl rfl (by kernel_rfl) (fun _ _ _ h => h) (Or.inl ⟨by rfl, ?_⟩) ?_ ?_
   rotate_left
   ·intro w'
    go_simp
    with_reducible rfl
   rotate_left
   ·simp only [Act.put, List.setIfInBounds_toArray, List.set_cons_zero, List.set_cons_succ, i64_w, i32_w]
    rfl
   refine pure_ (i := 7) (N := some 41) (v := ?_) (a' := ?_) #[true,true,true,true,false,false,true,true,false,false,false,false,false,false,false,false,false,false,false,false,false,false,false,false,false,false,false,false,false] rfl rfl (by kernel_rfl) (fun _ _ _ h => h) (Or.inl ⟨by rfl, ?_⟩) ?_ ?_
   rotate_left
   ·intro w'
    go_simp
    with_reducible rfl
   rotate_left
   ·simp only [Act.put, List.setIfInBounds_toArray, List.set_cons_zero, List.set_cons_succ, i64_w, i32_w]
    rfl
   refine pure_ (i := 8) (N := some 42) (v := ?_) (a' := ?_) #[true,true,true,true,false,false,true,true,true,false,false,false,false,false,false,false,false,false,false,false,false,false,false,false,false,false,false,false,false] rfl rfl (by kernel_rfl) (fun _ _ _ h => h) (Or.inl ⟨by rfl, ?_⟩) ?_ ?_
   rotate_left
   ·intro w'
    go_simp
    with_reducible rfl
   rotate_left
   ·simp only [Act.put, List.setIfInBounds_toArray, List.set_cons_zero, List.set_cons_succ, i64_w, i32_w]
    rfl
   refine pure_ (i := 9) (N := some 43) (v := ?_) (a' := ?_) #[true,true,true,true,false,false,true,true,true,true,false,false,false,false,false,false,false,false,false,false,false,false,false,false,false,false,false,false,false] rfl rfl (by kernel_rfl) (fun _ _ _ h => h) (Or.inl ⟨by rfl, ?_⟩) ?_ ?_
   rotate_left
   ·intro w'
    go_simp
    with_reducible rfl
   rotate_left
   ·simp only [Act.put, List.setIfInBounds_toArray, List.set_cons_zero, List.set_cons_succ, i64_w, i32_w]
    rfl
   refine take_ (i := 4) (N := some 38) (v := ?_) (a' := ?_) #[true,true,true,true,true,false,true,true,true,true,false,false,false,false,false,false,false,false,false,false,false,false,false,false,false,false,false,false,false] rfl rfl (by kernel_rfl) (fun _ _ _ h => h) (Or.inl ⟨by rfl, ?_⟩) hHeld ?_ ?_
   rotate_left
   ·rintro w' ⟨s0, s1⟩
    go_simp
    with_reducible rfl
   rotate_left
   ·simp only [Act.put, List.setIfInBounds_toArray, List.set_cons_zero, List.set_cons_succ, i64_w, i32_w]
    rfl
   refine take_ (i := 10) (N := some 44) (v := ?_) (a' := ?_) #[true,true,true,true,true,false,true,true,true,true,true,false,false,false,false,false,false,false,false,false,false,false,false,false,false,false,false,false,false] rfl rfl (by kernel_rfl) (fun _ _ _ h => h) (Or.inl ⟨by rfl, ?_⟩) hHeld ?_ ?_
   rotate_left
   ·rintro w' ⟨s0, s1⟩
    go_simp
    with_reducible rfl
   rotate_left
   ·simp only [Act.put, List.setIfInBounds_toArray, List.set_cons_zero, List.set_cons_succ, i64_w, i32_w]
    rfl
   refine one_ (i := 5) (N := some 39) #[true,true,true,true,true,true,true,true,true,true,true,false,false,false,false,false,false,false,false,false,false,false,false,false,false,false,false,false,false] rfl rfl (by kernel_rfl) (by decide) (fun K hK => ?_)
   refine goes_ Try.func17 (by kernel_rfl) rfl #[.pointer (some ⟨g, 0, none⟩), .agg #[.string kn, .int .u8 ks]] (by rfl) rfl rfl (by simp only [List.map_toArray, List.map_cons, List.map_nil]; rfl) ?_
   with_reducible refine ((HS.out.below HB0.out).tList hkn hks).mono ?_
   rintro e w5 ⟨A5, c5, rfl, hC5, hc5, hb⟩
   refine ⟨_, rfl, ?_⟩
   have HB5 := Lib.hid (below_then HB0.out HB0.out.size hb)
   have hk5 : w5.cell? (ad.add (i * 2)) = some (.string kn) ∧ w5.cell? ⟨(ad.add (i * 2)).block, (ad.add (i * 2)).off + 1, none⟩ = some (.int .u8 ks) := ⟨pw_cell_below hb hHeld.1, pw_cell_below hb hHeld.2⟩
   have HC5 := Lib.hid hC5
   clear hC5
   clear hb
   refine hK.out _ _ ⟨hk5.1, hk5.2⟩ (fun hHeld => ?_)
   clear hK K
   refine norm_ (a' := ?_) ?_ ?_
   rotate_left
   ·show Act.put _ (some 39) _ = _
    simp only [Act.put, List.setIfInBounds_toArray, List.set_cons_zero, List.set_cons_succ, i64_w, i32_w]
    rfl
   refine one_ (i := 11) (N := some 45) #[true,true,true,true,true,true,true,true,true,true,true,true,false,false,false,false,false,false,false,false,false,false,false,false,false,false,false,false,false] rfl rfl (by kernel_rfl) (by decide) (fun K hK => ?_)
   refine goes_ Try.func38 (by kernel_rfl) rfl #[.pointer (some ⟨r, 0, none⟩), .agg #[.string kn, .int .u8 ks]] (by rfl) rfl rfl (by simp only [List.map_toArray, List.map_cons, List.map_nil]; rfl) ?_
   with_reducible refine ((HS.out.below HB5.out).rList).mono ?_
   rintro e w6 ⟨A6, c6, rfl, hC6, hc6, hb⟩
   refine ⟨_, rfl, ?_⟩
   have HB6 := Lib.hid (below_then HB5.out HB5.out.size hb)
   have hk11 : w6.cell? (ad.add (i * 2)) = some (.string kn) ∧ w6.cell? ⟨(ad.add (i * 2)).block, (ad.add (i * 2)).off + 1, none⟩ = some (.int .u8 ks) := ⟨pw_cell_below hb hHeld.1, pw_cell_below hb hHeld.2⟩
   have HC6 := Lib.hid hC6
   have HC56 := Lib.hid (Kd.C_below HC5.out hb)
   clear hC6
   clear hb
   refine hK.out _ _ ⟨hk11.1, hk11.2⟩ (fun hHeld => ?_)
   clear hK K
   refine norm_ (a' := ?_) ?_ ?_
   rotate_left
   ·show Act.put _ (some 45) _ = _
    simp only [Act.put, List.setIfInBounds_toArray, List.set_cons_zero, List.set_cons_succ, i64_w, i32_w]
    rfl
   refine one_ (i := 12) (N := some 46) #[true,true,true,true,true,true,true,true,true,true,true,true,true,false,false,false,false,false,false,false,false,false,false,false,false,false,false,false,false] rfl rfl (by kernel_rfl) (by decide) (fun K hK => ?_)
   refine goes_ Try.func37 (by kernel_rfl) rfl #[.slice A5 (list rs kn ks).length c5, .slice A6 (list rs kn ks).length c6] (by rfl) rfl rfl (by simp only [List.map_toArray, List.map_cons, List.map_nil]; rfl) ?_
   with_reducible refine (reticuleref01_SameWords.calls _ A5 c5 (list rs kn ks) A6 c6 (list rs kn ks) true _ HC56.out hc5 HC6.out hc6 (sw_f _ HLN.out)).mono ?_
   rintro e w7 ⟨rfl, hd⟩
   refine ⟨_, rfl, ?_⟩
   have hb := hd.below
   have HB7 := Lib.hid (below_then HB6.out HB6.out.size hb)
   have hk12 : w7.cell? (ad.add (i * 2)) = some (.string kn) ∧ w7.cell? ⟨(ad.add (i * 2)).block, (ad.add (i * 2)).off + 1, none⟩ = some (.int .u8 ks) := ⟨pw_cell_below hb hHeld.1, pw_cell_below hb hHeld.2⟩
   clear hb
   refine hK.out _ _ ⟨hk12.1, hk12.2⟩ (fun hHeld => ?_)
   clear hK K
   refine norm_ (a' := ?_) ?_ ?_
   rotate_left
   ·show Act.put _ (some 46) _ = _
    simp only [Act.put, List.setIfInBounds_toArray, List.set_cons_zero, List.set_cons_succ, i64_w, i32_w]
    rfl
   refine pure_ (i := 13) (N := some 47) (v := ?_) (a' := ?_) #[true,true,true,true,true,true,true,true,true,true,true,true,true,true,false,false,false,false,false,false,false,false,false,false,false,false,false,false,false] rfl rfl (by kernel_rfl) (fun _ _ _ h => h) (Or.inl ⟨by rfl, ?_⟩) ?_ ?_
   rotate_left
   ·intro w'
    go_simp
    with_reducible rfl
   rotate_left
   ·simp only [Act.put, List.setIfInBounds_toArray, List.set_cons_zero, List.set_cons_succ, i64_w, i32_w]
    rfl
   refine pure_ (i := 14) (N := some 48) (v := ?_) (a' := ?_) #[true,true,true,true,true,true,true,true,true,true,true,true,true,true,true,false,false,false,false,false,false,false,false,false,false,false,false,false,false] rfl rfl (by kernel_rfl) (fun _ _ _ h => h) (Or.inl ⟨by rfl, ?_⟩) ?_ ?_
   rotate_left
   ·intro w'
    go_simp
    with_reducible rfl
   rotate_left
   ·simp only [Act.put, List.setIfInBounds_toArray, List.set_cons_zero, List.set_cons_succ, i64_w, i32_w]
    rfl
   refine pure_ (i := 15) (N := some 49) (v := ?_) (a' := ?_) #[true,true,true,true,true,true,true,true,true,true,true,true,true,true,true,true,false,false,false,false,false,false,false,false,false,false,false,false,false] rfl rfl (by kernel_rfl) (fun _ _ _ h => h) (Or.inl ⟨by rfl, ?_⟩) ?_ ?_
   rotate_left
   ·intro w'
    go_simp
    with_reducible rfl
   rotate_left
   ·simp only [Act.put, List.setIfInBounds_toArray, List.set_cons_zero, List.set_cons_succ, i64_w, i32_w]
    rfl
   refine pure_ (i := 16) (N := some 50) (v := ?_) (a' := ?_) #[true,true,true,true,true,true,true,true,true,true,true,true,true,true,true,true,true,false,false,false,false,false,false,false,false,false,false,false,false] rfl rfl (by kernel_rfl) (fun _ _ _ h => h) (Or.inl ⟨by rfl, ?_⟩) ?_ ?_
   rotate_left
   ·intro w'
    go_simp
    with_reducible rfl
   rotate_left
   ·simp only [Act.put, List.setIfInBounds_toArray, List.set_cons_zero, List.set_cons_succ, i64_w, i32_w]
    rfl
   refine pure_ (i := 17) (N := some 51) (v := ?_) (a' := ?_) #[true,true,true,true,true,true,true,true,true,true,true,true,true,true,true,true,true,true,false,false,false,false,false,false,false,false,false,false,false] rfl rfl (by kernel_rfl) (fun _ _ _ h => h) (Or.inl ⟨by rfl, ?_⟩) ?_ ?_
   rotate_left
   ·intro w'
    go_simp
    with_reducible rfl
   rotate_left
   ·simp only [Act.put, List.setIfInBounds_toArray, List.set_cons_zero, List.set_cons_succ, i64_w, i32_w]
    rfl
   refine pure_ (i := 18) (N := some 52) (v := ?_) (a' := ?_) #[true,true,true,true,true,true,true,true,true,true,true,true,true,true,true,true,true,true,true,false,false,false,false,false,false,false,false,false,false] rfl rfl (by kernel_rfl) (fun _ _ _ h => h) (Or.inl ⟨by rfl, ?_⟩) ?_ ?_
   rotate_left
   ·intro w'
    go_simp
    with_reducible rfl
   rotate_left
   ·simp only [Act.put, List.setIfInBounds_toArray, List.set_cons_zero, List.set_cons_succ, i64_w, i32_w]
    rfl
   refine pure_ (i := 21) (N := some 55) (v := ?_) (a' := ?_) #[true,true,true,true,true,true,true,true,true,true,true,true,true,true,true,true,true,true,true,false,false,true,false,false,false,false,false,false,false] rfl rfl (by kernel_rfl) (fun _ _ _ h => h) (Or.inl ⟨by rfl, ?_⟩) ?_ ?_
   rotate_left
   ·intro w'
    go_simp
    with_reducible rfl
   rotate_left
   ·simp only [Act.put, List.setIfInBounds_toArray, List.set_cons_zero, List.set_cons_succ, i64_w, i32_w]
    rfl
   refine pure_ (i := 22) (N := some 56) (v := ?_) (a' := ?_) #[true,true,true,true,true,true,true,true,true,true,true,true,true,true,true,true,true,true,true,false,false,true,true,false,false,false,false,false,false] rfl rfl (by kernel_rfl) (fun _ _ _ h => h) (Or.inl ⟨by rfl, ?_⟩) ?_ ?_
   rotate_left
   ·intro w'
    go_simp
    with_reducible rfl
   rotate_left
   ·simp only [Act.put, List.setIfInBounds_toArray, List.set_cons_zero, List.set_cons_succ, i64_w, i32_w]
    rfl
   refine pure_ (i := 23) (N := some 57) (v := ?_) (a' := ?_) #[true,true,true,true,true,true,true,true,true,true,true,true,true,true,true,true,true,true,true,false,false,true,true,true,false,false,false,false,false] rfl rfl (by kernel_rfl) (fun _ _ _ h => h) (Or.inl ⟨by rfl, ?_⟩) ?_ ?_
   rotate_left
   ·intro w'
    go_simp
    with_reducible rfl
   rotate_left
   ·simp only [Act.put, List.setIfInBounds_toArray, List.set_cons_zero, List.set_cons_succ, i64_w, i32_w]
    rfl
   refine pure_ (i := 24) (N := some 58) (v := ?_) (a' := ?_) #[true,true,true,true,true,true,true,true,true,true,true,true,true,true,true,true,true,true,true,false,false,true,true,true,true,false,false,false,false] rfl rfl (by kernel_rfl) (fun _ _ _ h => h) (Or.inl ⟨by rfl, ?_⟩) ?_ ?_
   rotate_left
   ·intro w'
    go_simp
    with_reducible rfl
   rotate_left
   ·simp only [Act.put, List.setIfInBounds_toArray, List.set_cons_zero, List.set_cons_succ, i64_w, i32_w]
    rfl
   refine take_ (i := 19) (N := some 53) (v := ?_) (a' := ?_) #[true,true,true,true,true,true,true,true,true,true,true,true,true,true,true,true,true,true,true,true,false,true,true,true,true,false,false,false,false] rfl rfl (by kernel_rfl) (fun _ _ _ h => h) (Or.inl ⟨by rfl, ?_⟩) hHeld ?_ ?_
   rotate_left
   ·rintro w' ⟨s0, s1⟩
    go_simp
    with_reducible rfl
   rotate_left
   ·simp only [Act.put, List.setIfInBounds_toArray, List.set_cons_zero, List.set_cons_succ, i64_w, i32_w]
    rfl
   refine take_ (i := 25) (N := some 59) (v := ?_) (a' := ?_) #[true,true,true,true,true,true,true,true,true,true,true,true,true,true,true,true,true,true,true,true,false,true,true,true,true,true,false,false,false] rfl rfl (by kernel_rfl) (fun _ _ _ h => h) (Or.inl ⟨by rfl, ?_⟩) hHeld ?_ ?_
   rotate_left
   ·rintro w' ⟨s0, s1⟩
    go_simp
    with_reducible rfl
   rotate_left
   ·simp only [Act.put, List.setIfInBounds_toArray, List.set_cons_zero, List.set_cons_succ, i64_w, i32_w]
    rfl
   refine one_ (i := 20) (N := some 54) #[true,true,true,true,true,true,true,true,true,true,true,true,true,true,true,true,true,true,true,true,true,true,true,true,true,true,false,false,false] rfl rfl (by kernel_rfl) (by decide) (fun K hK => ?_)
   refine goes_ Try.func19 (by kernel_rfl) rfl #[.pointer (some ⟨g, 0, none⟩), .agg #[.string kn, .int .u8 ks]] (by rfl) rfl rfl (by simp only [List.map_toArray, List.map_cons, List.map_nil]; rfl) ?_
   with_reducible refine ((HS.out.below HB7.out).tKind hkn hks).mono ?_
   rintro e w8 ⟨rfl, hb⟩
   refine ⟨_, rfl, ?_⟩
   have HB8 := Lib.hid (below_then HB7.out HB7.out.size hb)
   have hk20 : w8.cell? (ad.add (i * 2)) = some (.string kn) ∧ w8.cell? ⟨(ad.add (i * 2)).block, (ad.add (i * 2)).off + 1, none⟩ = some (.int .u8 ks) := ⟨pw_cell_below hb hHeld.1, pw_cell_below hb hHeld.2⟩
   clear hb
   refine hK.out _ _ ⟨hk20.1, hk20.2⟩ (fun hHeld => ?_)
   clear hK K
   refine norm_ (a' := ?_) ?_ ?_
   rotate_left
   ·show Act.put _ (some 54) _ = _
    simp only [Act.put, List.setIfInBounds_toArray, List.set_cons_zero, List.set_cons_succ, i64_w, i32_w]
    rfl
   refine one_ (i := 26) (N := some 60) #[true,true,true,true,true,true,true,true,true,true,true,true,true,true,true,true,true,true,true,true,true,true,true,true,true,true,true,false,false] rfl rfl (by kernel_rfl) (by decide) (fun K hK => ?_)
   refine goes_ Try.func39 (by kernel_rfl) rfl #[.pointer (some ⟨r, 0, none⟩), .agg #[.string kn, .int .u8 ks]] (by rfl) rfl rfl (by simp only [List.map_toArray, List.map_cons, List.map_nil]; rfl) ?_
   with_reducible refine ((HS.out.below HB8.out).rKind).mono ?_
   rintro e w9 ⟨rfl, hb⟩
   refine ⟨_, rfl, ?_⟩
   have HB9_ := Lib.hid (below_then HB8.out HB8.out.size hb)
   have hk26 : w9.cell? (ad.add (i * 2)) = some (.string kn) ∧ w9.cell? ⟨(ad.add (i * 2)).block, (ad.add (i * 2)).off + 1, none⟩ = some (.int .u8 ks) := ⟨pw_cell_below hb hHeld.1, pw_cell_below hb hHeld.2⟩
   clear hb
   refine hK.out _ _ ⟨hk26.1, hk26.2⟩ (fun hHeld => ?_)
   clear hK K
   refine norm_ (a' := ?_) ?_ ?_
   rotate_left
   ·show Act.put _ (some 60) _ = _
    simp only [Act.put, List.setIfInBounds_toArray, List.set_cons_zero, List.set_cons_succ, i64_w, i32_w]
    rfl
   refine pure_ (i := 27) (N := some 61) (v := ?_) (a' := ?_) #[true,true,true,true,true,true,true,true,true,true,true,true,true,true,true,true,true,true,true,true,true,true,true,true,true,true,true,true,false] rfl rfl (by kernel_rfl) (fun _ _ _ h => h) (Or.inl ⟨by rfl, ?_⟩) ?_ ?_
   rotate_left
   ·intro w'
    go_simp
    with_reducible rfl
   rotate_left
   ·simp only [Act.put, List.setIfInBounds_toArray, List.set_cons_zero, List.set_cons_succ, i64_w, i32_w]
    rfl
   refine pure_ (i := 28) (N := some 62) (v := ?_) (a' := ?_) #[true,true,true,true,true,true,true,true,true,true,true,true,true,true,true,true,true,true,true,true,true,true,true,true,true,true,true,true,true] rfl rfl (by kernel_rfl) (fun _ _ _ h => h) (Or.inl ⟨by rfl, ?_⟩) ?_ ?_
   rotate_left
   ·intro w'
    go_simp
    with_reducible rfl
   rotate_left
   ·simp only [Act.put, List.setIfInBounds_toArray, List.set_cons_zero, List.set_cons_succ, i64_w, i32_w]
    rfl
   refine done_ (by kernel_rfl) ?_
   have HB9r := HB9_
   have p0 := hk26.1
   have p1 := hk26.2
   clear hHeld hk5 hk11 hk12 hk20 hk26 k0 k1
   go_wp2_with fail
   go_loopw [9] (fun v9 wi => ∃ j : Int, -1 ≤ j ∧ j ≤ 4 ∧ v9 = I j ∧ Below w9.heap.size w9 wi) (fun v9 _ => (4 - intOf v9).toNat)
   case atStart => exact ⟨-1, by omega, by omega, rfl, Below.refl _ _⟩
   case round =>
    obtain ⟨j, hj0, hj4, rfl, hbj⟩ := hrel
    have HBJ := Lib.hid (below_then HB9r.out HB9r.out.size hbj)
    have HBI := Lib.hid hbj
    have j0 := pw_cell_below hbj p0
    have j1 := pw_cell_below hbj p1
    clear hbj
    by_cases hj : j < 4
    ·have d2 : decide (j < 4) = true := decide_eq_true hj
     go_wp2_with fail
     refine ((HS.out.below HBJ.out).tGet hkn hks j).mono ?_
     rintro e_ w11 ⟨rfl, hb⟩
     have HB11 := Lib.hid (below_then HBJ.out HBJ.out.size hb)
     have HB11i := Lib.hid (below_then HBI.out HBI.out.size hb)
     have j2 := pw_cell_below hb j0
     have j3 := pw_cell_below hb j1
     clear hb j0 j1
     go_wp2_with fail
     refine ((HS.out.below HB11.out).rGet j).mono ?_
     rintro e_ w12 ⟨rfl, hb⟩
     have HB12i := Lib.hid (below_then HB11i.out HB11i.out.size hb)
     clear hb j2 j3
     go_wp2_with fail
     go_roundw
     case rel => exact ⟨j + 1, by omega, by omega, by first | rfl | go_num, HB12i.out⟩
     case measure => simp [intOf]; omega
    ·have d2 : decide (j < 4) = false := decide_eq_false hj
     go_wp2_with fail
     go_roundw
     case rel => exact ⟨i + 1, by omega, by go_num, HBJ.out⟩
     case measure => simp [intOf]; omega
  ·have d1 : decide ((i : Int) < ((m + 1 : Nat) : Int)) = false := decide_eq_false (by omega)
   go_wp2_with fail
   go_loopw [14] (fun v14 wr => ∃ s : Int, 0 ≤ s ∧ s ≤ 5 ∧ v14 = .int .u8 s ∧ Below zz9.heap.size zz9 wr) (fun v14 _ => (5 - intOf v14).toNat)
   case atStart => exact ⟨0, by omega, by omega, rfl, HBR.out⟩
   case round =>
    obtain ⟨s, hs0, hs5, rfl, hbr⟩ := hrel
    have HBS := Lib.hid hbr
    clear hbr
    by_cases hle : s ≤ 4
    ·have d2 : decide (s ≤ 4) = true := decide_eq_true hle
     go_wp2_with fail
     refine ((HS.out.below HBS.out).tLen s).mono ?_
     rintro e_ w4 ⟨rfl, rfl⟩
     go_wp2_with fail
     refine ((HS.out.below HBS.out).rLen s).mono ?_
     rintro e_ w4 ⟨rfl, rfl⟩
     go_wp2_with fail
     go_roundw
     case rel => exact ⟨s + 1, by omega, by omega, by first | rfl | go_num, HBS.out⟩
     case measure => simp [intOf]; omega
    ·have d2 : decide (s ≤ 4) = false := decide_eq_false hle
     go_wp2_with fail
     go_ret
     exact ⟨rfl, below_then HB9.out HB9.out.size HBS.out⟩
end Go.Proofs.Ytpcjppefopjngaa.C
