/- Columns by names: Same. -/
import Derived.Test.YtpcjppefopjngaaFk
import Derived.Test.YtpcjppefopjngaaRs
set_option linter.unusedSimpArgs false
set_option linter.unusedVariables false
namespace Go.Proofs.Ytpcjppefopjngaa.C
open Go.RowKit Go.Proofs.Ytpcjppefopjngaa.Sk Go.Proofs.Ytpcjppefopjngaa.PA Go.Proofs.Ytpcjppefopjngaa.Mp Go.Proofs.YtpcjppefopjngaaW.PrintWords Go.Proofs.YtpcjppefopjngaaW.PrintLast Go.Proofs.YtpcjppefopjngaaW.PrintMore
theorem ev_l0 (l l' : List Int) (hl : l.length ≤ 1000000) (he : l.length = l'.length) : ∀ (k i : Nat), l.length - i < k → i ≤ l.length → l.take i = l'.take i → api_Word_52.l0 k l l' (l.length : Int) (i : Int) = some (decide (l = l'))
 | 0, i, h, _, _ => by omega
 | k + 1, i, h, hi, ht => by
  have hw : i < l.length → wrap64 ((i : Int) + 1) = ((i + 1 : Nat) : Int) := fun q => by unfold wrap64; omega
  rw [api_Word_52.l0]
  by_cases q : i < l.length
  ·rw [if_pos (by omega), if_pos (by omega), if_pos (by omega), if_pos (by omega), rd_at q, rd_at (show i < l'.length by omega), hw q]
   by_cases he2 : l[i] = l'[i]
   ·rw [if_pos he2]
    exact ev_l0 l l' hl he k (i + 1) (by omega) (by omega) (by rw [List.take_succ_eq_append_getElem q, List.take_succ_eq_append_getElem (show i < l'.length by omega), ht, he2])
   ·rw [if_neg he2, decide_eq_false]
    intro e
    subst e
    exact he2 rfl
  ·rw [if_neg (by omega), decide_eq_true]
   rw [List.take_of_length_le (by omega), List.take_of_length_le (by omega)] at ht
   exact ht
theorem ev_f (l l' : List Int) (hl : l.length ≤ 1000000) : api_Word_52.f (l.length + 1) l l' = some (decide (l = l')) := by
 unfold api_Word_52.f
 by_cases he : l.length = l'.length
 ·rw [if_pos (by omega)]
  exact ev_l0 l l' hl he _ 0 (by omega) (by omega) (by simp)
 ·rw [if_neg (by omega), decide_eq_false]
  intro e
  subst e
  exact he rfl
/-- All of some columns are among others. -/
def Among (cs1 cs2 : List Cl) : Prop := cs1.length = cs2.length ∧ ∀ c ∈ cs1, get? cs2 c.nm c.sd = some c
instance (cs1 cs2 : List Cl) : Decidable (Among cs1 cs2) := inferInstanceAs (Decidable (cs1.length = cs2.length ∧ ∀ c ∈ cs1, get? cs2 c.nm c.sd = some c))
theorem sub_perm : ∀ {l1 l2 : List Cl}, l1.Nodup → l1.length = l2.length → (∀ c ∈ l1, c ∈ l2) → l1.Perm l2
 | [], l2, _, hl, _ => by rw [List.length_eq_zero_iff.1 hl.symm]
 | a :: l1, l2, hn, hl, hs => by
  classical
  have ha := hs a (by simp)
  obtain ⟨s, t, rfl⟩ := List.append_of_mem ha
  have hn2 := (List.nodup_cons.1 hn)
  refine (List.Perm.cons a (sub_perm (l2 := s ++ t) hn2.2 (by simp at hl ⊢; omega) (fun c hc => ?_))).trans List.perm_middle.symm
  have := hs c (List.mem_cons_of_mem _ hc)
  simp only [List.mem_append, List.mem_cons] at this ⊢
  rcases this with q | rfl | q
  ·exact .inl q
  ·exact absurd hc hn2.1
  ·exact .inr q
theorem sorted_eq : ∀ {l1 l2 : List Cl}, (l1.map Cl.k25).Pairwise klt → (l2.map Cl.k25).Pairwise klt → l1.Perm l2 → l1 = l2
 | [], l2, _, _, h => (List.nil_perm.1 h).symm
 | a :: l1, [], _, _, h => by have := h.length_eq; simp at this
 | a :: l1, b :: l2, h1, h2, h => by
  rw [List.map_cons, List.pairwise_cons] at h1 h2
  have hab : a = b := by
   have ha := h.mem_iff.1 (by simp : a ∈ a :: l1)
   have hb := h.mem_iff.2 (by simp : b ∈ b :: l2)
   rcases List.mem_cons.1 ha with q | q
   ·exact q
   ·rcases List.mem_cons.1 hb with z | z
    ·exact z.symm
    ·have q1 := h2.1 _ (List.mem_map_of_mem q)
     have q2 := h1.1 _ (List.mem_map_of_mem z)
     exact absurd (klt_trans q1 q2) (klt_irr _)
  subst hab
  rw [sorted_eq h1.2 h2.2 ((List.perm_cons a).1 h)]
theorem among_iff {n e : Int} {cs1 cs2 rs1 rs2 : List Cl} (h1 : Wf n e rs1) (p1 : cs1.Perm rs1) (h2 : Wf n e rs2) (p2 : cs2.Perm rs2) : Among cs1 cs2 ↔ rs1 = rs2 := by
 constructor
 ·rintro ⟨hl, hm⟩
  refine sorted_eq h1.so h2.so ((p1.symm.trans (sub_perm ?_ hl fun c hc => (get_some (hm c hc)).1)).trans p2)
  exact (List.Pairwise.of_map Cl.k25 (fun a b q e => q (by rw [e])) (perm_nd h1 p1))
 ·rintro rfl
  refine ⟨p1.length_eq.trans p2.length_eq.symm, fun c hc => ?_⟩
  exact (get_iff (perm_nd h2 p2)).2 ⟨p2.mem_iff.2 (p1.mem_iff.1 hc), rfl, rfl⟩
theorem find_get' {cs : List Cl} {nm : ByteArray} {sd : Int} {j : Nat} (h : find cs nm sd = some j) : ∃ hj : j < cs.length, get? cs nm sd = some cs[j] := by
 have hj := find_lt h
 refine ⟨hj, ?_⟩
 rw [find_get, h]
 simp [List.getD, hj]
set_option maxRecDepth 100000 in
set_option maxHeartbeats 8000000 in
theorem tsame_ok (g1 mb1 g2 mb2 : Nat) (n e : Int) (cs1 cs2 : List Cl) (cb1 vb1 cb2 vb2 : Nat → Nat) (w : World) (h1 : IsT w g1 mb1 n e cs1 cb1 vb1) (h2 : IsT w g2 mb2 n e cs2 cb2 vb2) (hsz1 : ∀ c ∈ cs1, c.nm.size ≤ maxLen ∧ (0 ≤ c.sd ∧ c.sd ≤ 255) ∧ c.vs.length ≤ 1000) (hsz2 : ∀ c ∈ cs2, c.vs.length ≤ 1000) :
  Calls Try.prog 23 #[.pointer (some ⟨g1, 0, none⟩), .pointer (some ⟨g2, 0, none⟩)] w fun e_ w' => e_ = .returned (.bool (decide (Among cs1 cs2))) ∧ Below w.heap.size w w' := by
 have H1 := Lib.hid h1
 have H2 := Lib.hid h2
 have HSZ1 := Lib.hid hsz1
 have HSZ2 := Lib.hid hsz2
 have p0 : w.cell? ⟨g1, 0, none⟩ = some (I n) := by rw [cell_of h1.tb]; rfl
 have p1 : w.cell? ⟨g1, 1, none⟩ = some (I e) := by rw [cell_of h1.tb]; rfl
 have p2 : w.cell? ⟨g1, 2, none⟩ = some (.map (some mb1)) := by rw [cell_of h1.tb]; rfl
 have p3 : w.cell? ⟨g2, 0, none⟩ = some (I n) := by rw [cell_of h2.tb]; rfl
 have p4 : w.cell? ⟨g2, 1, none⟩ = some (I e) := by rw [cell_of h2.tb]; rfl
 have p5 : w.cell? ⟨g2, 2, none⟩ = some (.map (some mb2)) := by rw [cell_of h2.tb]; rfl
 have hml1 : ∀ q ty, (Builtin.len_ #[91] ty #[.map (some mb1)]).run Try.prog (w.drewN q) = .ok (I cs1.length) (w.drewN q) := fun q ty => by
  have := map_len (h1.below (pw_below_drewN (Below.refl _ _) q)).mp ty
  rwa [ents_len] at this
 have hml2 : ∀ q ty, (Builtin.len_ #[91] ty #[.map (some mb2)]).run Try.prog (w.drewN q) = .ok (I cs2.length) (w.drewN q) := fun q ty => by
  have := map_len (h2.below (pw_below_drewN (Below.refl _ _) q)).mp ty
  rwa [ents_len] at this
 obtain ⟨res, hres⟩ : ∃ res, res = decide (Among cs1 cs2) := ⟨_, rfl⟩
 rw [← hres]
 have HRES := Lib.hid hres
 clear h1 h2 hres hsz1 hsz2
 by_cases hlen : cs1.length = cs2.length
 ·have hbn : ((cs1.length : Int) != (cs2.length : Int)) = false := by rw [hlen]; simp
  have HLEN := Lib.hid hlen
  clear hlen
  go_enter Try.func23, Try.ntmps23
  go_wp2_with fail
  go_quiet (fail)
  have HBq := Lib.hid (pw_below_drewN (Below.refl w.heap.size w) nq)
  have HM1 := Lib.hid (H1.out.below HBq.out).mp
  clear hml1 hml2 hbn
  go_wp2_with (at_range; refine wpList_range_is rfl (.tmp 53) 91 rfl (k := 25) (e := 75) Try.underlying91 rfl HM1.out ?_; intro w2 hrg hg5 hs5)
  try go_frame
  have hbw2 : Below w.heap.size (w.drewN nq) w2 := ⟨hg5.os, hg5.tape, hg5.output, hg5.size, fun k hk => hg5.block k hk (by simp)⟩
  have hB2 : Below w.heap.size w w2 := HBq.out.trans hbw2
  obtain ⟨R, hR⟩ : ∃ R, R = (w.drewN nq).heap.size := ⟨_, rfl⟩
  have hRw : w.heap.size ≤ R := by rw [hR]; exact HBq.out.size
  rw [← hR] at hrg ⊢
  have HRG0 := Lib.hid hrg
  have HB2 := Lib.hid hB2
  clear hrg hg5 hs5 hbw2 hR hB2
  go_loopw [5] (fun _ wr => ∃ (seen : Array Nat), RangeIs wr mb1 R (ents cs1 cb1) seen ∧ (∀ i ∈ seen.toList, ∀ hi : i < cs1.length, get? cs2 cs1[i].nm cs1[i].sd = some cs1[i]) ∧ Below w.heap.size w wr) (fun _ wr => cs1.length - seenOf wr R)
  case atStart => exact ⟨#[], HRG0.out, fun i hi => by simp at hi, HB2.out⟩
  case round =>
   clear HRG0 HB2 HM1 HBq
   obtain ⟨seen, hrg, hA, hb⟩ := hrel
   have HRG := Lib.hid hrg
   have HA := Lib.hid hA
   have HB := Lib.hid hb
   have hsn := hrg.seen_eq
   clear hrg hA hb
   go_wp2_with (at_next; refine wpList_next_is rfl (.tmp 54) rfl rfl HRG.out ?_ ?_ <;> first | (intro hperm; have HP := Lib.hid hperm; clear hperm) | (intro i key v w3 hmi hsl hrg3 hg3 hs3 hen; obtain ⟨hi, rfl, rfl⟩ := ents_out hmi; unfold Cl.key ke at hen; have HI := Lib.hid hi; have HSL := Lib.hid hsl; have HRG3 := Lib.hid hrg3; have HG3 := Lib.hid hg3; have HS3 := Lib.hid hs3; clear hmi hsl hrg3 hg3 hs3))
   ·have HRT : Hid (res = true) := Lib.hid (by
     rw [HRES.out, decide_eq_true]
     refine ⟨HLEN.out, fun c hc => ?_⟩
     obtain ⟨i, hi, rfl⟩ := List.getElem_of_mem hc
     refine HA.out i ?_ hi
     have := HP.out
     rw [ents_len] at this
     exact this.mem_iff.2 (List.mem_range.2 hi))
    clear hsn
    go_wp2_with fail
    go_ret
    exact ⟨by rw [HRT.out]; rfl, HB.out⟩
   ·have hi := HI.out
    obtain ⟨x, hx⟩ : ∃ x, x = cs1[i] := ⟨_, rfl⟩
    rw [← hx]
    have hxm : x ∈ cs1 := by rw [hx]; exact List.getElem_mem hi
    have hxs := HSZ1.out x hxm
    have hBR3 : Below w.heap.size w w3 := ⟨HG3.out.os.trans HB.out.os, HG3.out.tape.trans HB.out.tape, HG3.out.output.trans HB.out.output, Nat.le_trans HB.out.size HG3.out.size, fun k hk => (HG3.out.block k (Nat.lt_of_lt_of_le hk HB.out.size) (by intro z; injection z with z; omega)).trans (HB.out.block k hk)⟩
    obtain ⟨W6, hW6⟩ : ∃ W6, W6 = w3.alloc (.cells #[.string x.nm, .int .u8 x.sd] 25) := ⟨_, rfl⟩
    have hb6 : Below w3.heap.size w3 W6 := by rw [hW6]; exact below_alloc (Below.refl _ w3) _
    have hB6 : Below w.heap.size w W6 := below_then hBR3 hBR3.size hb6
    have hT1 := H1.out.below hB6
    have hT2 := H2.out.below hB6
    obtain ⟨cp1, hcp1, hct⟩ := hT1.ct i hi
    obtain ⟨ex1, hvt⟩ := hT1.vt i hi
    rw [← hx] at hct hvt hcp1 hen
    obtain ⟨B, hBq⟩ : ∃ B, B = w3.heap.size := ⟨_, rfl⟩
    have hbx : W6.heap[B]? = some (.cells #[.string x.nm, .int .u8 x.sd] 25 (0, 0)) := by rw [hW6, hBq]; exact heap_alloc_new w3 _
    have b0 : W6.cell? ⟨B, 0, none⟩ = some (.string x.nm) := by rw [cell_of hbx]; rfl
    have b1 : W6.cell? ⟨B, 1, none⟩ = some (.int .u8 x.sd) := by rw [cell_of hbx]; rfl
    have k0' : W6.cell? ⟨cb1 i, 0, none⟩ = some (.int .u8 x.kd) := by rw [cell_of hct]; rfl
    have k1' : W6.cell? ⟨cb1 i, 1, none⟩ = some (.slice (some ⟨vb1 i, 0, none⟩) x.vs.length cp1) := by rw [cell_of hct]; rfl
    have q5 : W6.cell? ⟨g2, 2, none⟩ = some (.map (some mb2)) := by rw [cell_of hT2.tb]; rfl
    have HC1 := Lib.hid (vals_C hvt hxs.2.2)
    have HR6 := Lib.hid (HRG3.out.below hb6)
    have HB6 := Lib.hid hB6
    have HW6 := Lib.hid hW6
    have HBQ := Lib.hid hBq
    have HX := Lib.hid hx
    have HXM := Lib.hid hxm
    have HCP1 := Lib.hid hcp1
    have HMS : Hid (∀ r, get? cs2 x.nm x.sd = r → r ≠ some x → res = false) := Lib.hid fun r hr hne => by
     rw [HRES.out, decide_eq_false]
     rintro ⟨_, z⟩
     exact hne (hr.symm.trans (z x HXM.out))
    cases hf : find cs2 x.nm x.sd with
    | none =>
     have hl : ∀ q, (Instr.lookup 91 (.map (some mb2)) (.agg #[.string x.nm, .int .u8 x.sd]) true).run Try.prog (W6.drewN q) = .ok (.tuple #[.pointer none, .bool false]) (W6.drewN q) := fun q => look_none (hT2.below (pw_below_drewN (Below.refl _ _) q)) hxs.1 hxs.2.1 hf
     have HRF := Lib.hid (HMS.out none (by rw [find_get, hf]) (by simp))
     obtain ⟨nm, sd, kd, vs⟩ := x
     clear hx hxm hxs hBR3 hb6 hB6 hT1 hT2 hct hvt hcp1 hbx hf hW6 hBq
     rw [← HBQ.out, ← HW6.out]
     go_quiet (fail)
     go_wp2_with fail
     refine start_ (n := 25) (S := fun w' => True) (ds := []) #[false,false,false,false,false,false,false,false,false,false,false,false,false,false,false,false,false,false,false,false,false,false,false,false,false] (by kernel_rfl) rfl rfl trivial (fun hHeld => ?_)
     refine pure_ (i := 0) (N := some 69) (v := ?_) (a' := ?_) #[true,false,false,false,false,false,false,false,false,false,false,false,false,false,false,false,false,false,false,false,false,false,false,false,false] rfl rfl (by as_aux_lemma => kernel_rfl) (fun _ _ _ h => h) (Or.inl ⟨by rfl, ?_⟩) ?_ ?_
     rotate_left
     ·intro w'
      go_simp
      with_reducible rfl
     rotate_left
     ·simp only [Act.put, List.setIfInBounds_toArray, List.set_cons_zero, List.set_cons_succ, i64_w, i32_w]
      rfl
     refine pure_ (i := 1) (N := some 70) (v := ?_) (a' := ?_) #[true,true,false,false,false,false,false,false,false,false,false,false,false,false,false,false,false,false,false,false,false,false,false,false,false] rfl rfl (by as_aux_lemma => kernel_rfl) (fun _ _ _ h => h) (Or.inl ⟨by rfl, ?_⟩) ?_ ?_
     rotate_left
     ·intro w'
      go_simp
      with_reducible rfl
     rotate_left
     ·simp only [Act.put, List.setIfInBounds_toArray, List.set_cons_zero, List.set_cons_succ, i64_w, i32_w]
      rfl
     refine pure_ (i := 2) (N := some 71) (v := ?_) (a' := ?_) #[true,true,true,false,false,false,false,false,false,false,false,false,false,false,false,false,false,false,false,false,false,false,false,false,false] rfl rfl (by as_aux_lemma => kernel_rfl) (fun _ _ _ h => h) (Or.inl ⟨by rfl, ?_⟩) ?_ ?_
     rotate_left
     ·intro w'
      go_simp
      with_reducible rfl
     rotate_left
     ·simp only [Act.put, List.setIfInBounds_toArray, List.set_cons_zero, List.set_cons_succ, i64_w, i32_w]
      rfl
     refine pure_ (i := 3) (N := some 72) (v := undef) (a' := ?_) #[true,true,true,true,false,false,false,false,false,false,false,false,false,false,false,false,false,false,false,false,false,false,false,false,false] rfl rfl (by as_aux_lemma => kernel_rfl) (fun _ _ _ h => h) (Or.inr ⟨by rfl, rfl⟩) ?_ ?_
     rotate_left
     ·simp only [Act.put, List.setIfInBounds_toArray, List.set_cons_zero, List.set_cons_succ, i64_w, i32_w]
      rfl
     refine pure_ (i := 4) (N := some 73) (v := undef) (a' := ?_) #[true,true,true,true,true,false,false,false,false,false,false,false,false,false,false,false,false,false,false,false,false,false,false,false,false] rfl rfl (by as_aux_lemma => kernel_rfl) (fun _ _ _ h => h) (Or.inr ⟨by rfl, rfl⟩) ?_ ?_
     rotate_left
     ·simp only [Act.put, List.setIfInBounds_toArray, List.set_cons_zero, List.set_cons_succ, i64_w, i32_w]
      rfl
     refine pure_ (i := 5) (N := some 74) (v := undef) (a' := ?_) #[true,true,true,true,true,true,false,false,false,false,false,false,false,false,false,false,false,false,false,false,false,false,false,false,false] rfl rfl (by as_aux_lemma => kernel_rfl) (fun _ _ _ h => h) (Or.inr ⟨by rfl, rfl⟩) ?_ ?_
     rotate_left
     ·simp only [Act.put, List.setIfInBounds_toArray, List.set_cons_zero, List.set_cons_succ, i64_w, i32_w]
      rfl
     refine pure_ (i := 6) (N := some 75) (v := undef) (a' := ?_) #[true,true,true,true,true,true,true,false,false,false,false,false,false,false,false,false,false,false,false,false,false,false,false,false,false] rfl rfl (by as_aux_lemma => kernel_rfl) (fun _ _ _ h => h) (Or.inr ⟨by rfl, rfl⟩) ?_ ?_
     rotate_left
     ·simp only [Act.put, List.setIfInBounds_toArray, List.set_cons_zero, List.set_cons_succ, i64_w, i32_w]
      rfl
     refine pure_ (i := 7) (N := some 76) (v := undef) (a' := ?_) #[true,true,true,true,true,true,true,true,false,false,false,false,false,false,false,false,false,false,false,false,false,false,false,false,false] rfl rfl (by as_aux_lemma => kernel_rfl) (fun _ _ _ h => h) (Or.inr ⟨by rfl, rfl⟩) ?_ ?_
     rotate_left
     ·simp only [Act.put, List.setIfInBounds_toArray, List.set_cons_zero, List.set_cons_succ, i64_w, i32_w]
      rfl
     refine pure_ (i := 8) (N := some 77) (v := undef) (a' := ?_) #[true,true,true,true,true,true,true,true,true,false,false,false,false,false,false,false,false,false,false,false,false,false,false,false,false] rfl rfl (by as_aux_lemma => kernel_rfl) (fun _ _ _ h => h) (Or.inr ⟨by rfl, rfl⟩) ?_ ?_
     rotate_left
     ·simp only [Act.put, List.setIfInBounds_toArray, List.set_cons_zero, List.set_cons_succ, i64_w, i32_w]
      rfl
     refine pure_ (i := 9) (N := some 78) (v := undef) (a' := ?_) #[true,true,true,true,true,true,true,true,true,true,false,false,false,false,false,false,false,false,false,false,false,false,false,false,false] rfl rfl (by as_aux_lemma => kernel_rfl) (fun _ _ _ h => h) (Or.inr ⟨by rfl, rfl⟩) ?_ ?_
     rotate_left
     ·simp only [Act.put, List.setIfInBounds_toArray, List.set_cons_zero, List.set_cons_succ, i64_w, i32_w]
      rfl
     refine pure_ (i := 10) (N := some 79) (v := undef) (a' := ?_) #[true,true,true,true,true,true,true,true,true,true,true,false,false,false,false,false,false,false,false,false,false,false,false,false,false] rfl rfl (by as_aux_lemma => kernel_rfl) (fun _ _ _ h => h) (Or.inr ⟨by rfl, rfl⟩) ?_ ?_
     rotate_left
     ·simp only [Act.put, List.setIfInBounds_toArray, List.set_cons_zero, List.set_cons_succ, i64_w, i32_w]
      rfl
     refine pure_ (i := 11) (N := some 80) (v := undef) (a' := ?_) #[true,true,true,true,true,true,true,true,true,true,true,true,false,false,false,false,false,false,false,false,false,false,false,false,false] rfl rfl (by as_aux_lemma => kernel_rfl) (fun _ _ _ h => h) (Or.inr ⟨by rfl, rfl⟩) ?_ ?_
     rotate_left
     ·simp only [Act.put, List.setIfInBounds_toArray, List.set_cons_zero, List.set_cons_succ, i64_w, i32_w]
      rfl
     refine pure_ (i := 12) (N := some 81) (v := ?_) (a' := ?_) #[true,true,true,true,true,true,true,true,true,true,true,true,true,false,false,false,false,false,false,false,false,false,false,false,false] rfl rfl (by as_aux_lemma => kernel_rfl) (fun _ _ _ h => h) (Or.inl ⟨by rfl, ?_⟩) ?_ ?_
     rotate_left
     ·intro w'
      go_simp
      with_reducible rfl
     rotate_left
     ·simp only [Act.put, List.setIfInBounds_toArray, List.set_cons_zero, List.set_cons_succ, i64_w, i32_w]
      rfl
     refine pure_ (i := 13) (N := some 82) (v := ?_) (a' := ?_) #[true,true,true,true,true,true,true,true,true,true,true,true,true,true,false,false,false,false,false,false,false,false,false,false,false] rfl rfl (by as_aux_lemma => kernel_rfl) (fun _ _ _ h => h) (Or.inl ⟨by rfl, ?_⟩) ?_ ?_
     rotate_left
     ·intro w'
      go_simp
      with_reducible rfl
     rotate_left
     ·simp only [Act.put, List.setIfInBounds_toArray, List.set_cons_zero, List.set_cons_succ, i64_w, i32_w]
      rfl
     refine pure_ (i := 14) (N := some 83) (v := undef) (a' := ?_) #[true,true,true,true,true,true,true,true,true,true,true,true,true,true,true,false,false,false,false,false,false,false,false,false,false] rfl rfl (by as_aux_lemma => kernel_rfl) (fun _ _ _ h => h) (Or.inr ⟨by rfl, rfl⟩) ?_ ?_
     rotate_left
     ·simp only [Act.put, List.setIfInBounds_toArray, List.set_cons_zero, List.set_cons_succ, i64_w, i32_w]
      rfl
     refine pure_ (i := 15) (N := some 84) (v := undef) (a' := ?_) #[true,true,true,true,true,true,true,true,true,true,true,true,true,true,true,true,false,false,false,false,false,false,false,false,false] rfl rfl (by as_aux_lemma => kernel_rfl) (fun _ _ _ h => h) (Or.inr ⟨by rfl, rfl⟩) ?_ ?_
     rotate_left
     ·simp only [Act.put, List.setIfInBounds_toArray, List.set_cons_zero, List.set_cons_succ, i64_w, i32_w]
      rfl
     refine pure_ (i := 16) (N := some 85) (v := undef) (a' := ?_) #[true,true,true,true,true,true,true,true,true,true,true,true,true,true,true,true,true,false,false,false,false,false,false,false,false] rfl rfl (by as_aux_lemma => kernel_rfl) (fun _ _ _ h => h) (Or.inr ⟨by rfl, rfl⟩) ?_ ?_
     rotate_left
     ·simp only [Act.put, List.setIfInBounds_toArray, List.set_cons_zero, List.set_cons_succ, i64_w, i32_w]
      rfl
     refine pure_ (i := 17) (N := some 86) (v := undef) (a' := ?_) #[true,true,true,true,true,true,true,true,true,true,true,true,true,true,true,true,true,true,false,false,false,false,false,false,false] rfl rfl (by as_aux_lemma => kernel_rfl) (fun _ _ _ h => h) (Or.inr ⟨by rfl, rfl⟩) ?_ ?_
     rotate_left
     ·simp only [Act.put, List.setIfInBounds_toArray, List.set_cons_zero, List.set_cons_succ, i64_w, i32_w]
      rfl
     refine pure_ (i := 18) (N := some 87) (v := undef) (a' := ?_) #[true,true,true,true,true,true,true,true,true,true,true,true,true,true,true,true,true,true,true,false,false,false,false,false,false] rfl rfl (by as_aux_lemma => kernel_rfl) (fun _ _ _ h => h) (Or.inr ⟨by rfl, rfl⟩) ?_ ?_
     rotate_left
     ·simp only [Act.put, List.setIfInBounds_toArray, List.set_cons_zero, List.set_cons_succ, i64_w, i32_w]
      rfl
     refine pure_ (i := 19) (N := some 88) (v := undef) (a' := ?_) #[true,true,true,true,true,true,true,true,true,true,true,true,true,true,true,true,true,true,true,true,false,false,false,false,false] rfl rfl (by as_aux_lemma => kernel_rfl) (fun _ _ _ h => h) (Or.inr ⟨by rfl, rfl⟩) ?_ ?_
     rotate_left
     ·simp only [Act.put, List.setIfInBounds_toArray, List.set_cons_zero, List.set_cons_succ, i64_w, i32_w]
      rfl
     refine pure_ (i := 20) (N := some 89) (v := undef) (a' := ?_) #[true,true,true,true,true,true,true,true,true,true,true,true,true,true,true,true,true,true,true,true,true,false,false,false,false] rfl rfl (by as_aux_lemma => kernel_rfl) (fun _ _ _ h => h) (Or.inr ⟨by rfl, rfl⟩) ?_ ?_
     rotate_left
     ·simp only [Act.put, List.setIfInBounds_toArray, List.set_cons_zero, List.set_cons_succ, i64_w, i32_w]
      rfl
     refine pure_ (i := 21) (N := some 90) (v := undef) (a' := ?_) #[true,true,true,true,true,true,true,true,true,true,true,true,true,true,true,true,true,true,true,true,true,true,false,false,false] rfl rfl (by as_aux_lemma => kernel_rfl) (fun _ _ _ h => h) (Or.inr ⟨by rfl, rfl⟩) ?_ ?_
     rotate_left
     ·simp only [Act.put, List.setIfInBounds_toArray, List.set_cons_zero, List.set_cons_succ, i64_w, i32_w]
      rfl
     refine pure_ (i := 22) (N := some 91) (v := undef) (a' := ?_) #[true,true,true,true,true,true,true,true,true,true,true,true,true,true,true,true,true,true,true,true,true,true,true,false,false] rfl rfl (by as_aux_lemma => kernel_rfl) (fun _ _ _ h => h) (Or.inr ⟨by rfl, rfl⟩) ?_ ?_
     rotate_left
     ·simp only [Act.put, List.setIfInBounds_toArray, List.set_cons_zero, List.set_cons_succ, i64_w, i32_w]
      rfl
     refine pure_ (i := 23) (N := some 92) (v := undef) (a' := ?_) #[true,true,true,true,true,true,true,true,true,true,true,true,true,true,true,true,true,true,true,true,true,true,true,true,false] rfl rfl (by as_aux_lemma => kernel_rfl) (fun _ _ _ h => h) (Or.inr ⟨by rfl, rfl⟩) ?_ ?_
     rotate_left
     ·simp only [Act.put, List.setIfInBounds_toArray, List.set_cons_zero, List.set_cons_succ, i64_w, i32_w]
      rfl
     refine pure_ (i := 24) (N := some 93) (v := ?_) (a' := ?_) #[true,true,true,true,true,true,true,true,true,true,true,true,true,true,true,true,true,true,true,true,true,true,true,true,true] rfl rfl (by as_aux_lemma => kernel_rfl) (fun _ _ _ h => h) (Or.inl ⟨by rfl, ?_⟩) ?_ ?_
     rotate_left
     ·intro w'
      go_simp
      with_reducible rfl
     rotate_left
     ·simp only [Act.put, List.setIfInBounds_toArray, List.set_cons_zero, List.set_cons_succ, i64_w, i32_w]
      rfl
     refine done_ (by kernel_rfl) ?_
     go_wp2_with fail
     go_ret
     exact ⟨by rw [HRF.out]; rfl, below_then (below_then HB6.out HB6.out.size (pw_below_drewN (Below.refl _ _) _)) (Nat.le_trans HB6.out.size (pw_below_drewN (Below.refl W6.heap.size W6) _).size) (below_drew1 (Below.refl _ _))⟩
    | some j =>
     obtain ⟨hj, hgj⟩ := find_get' hf
     have hl : ∀ q, (Instr.lookup 91 (.map (some mb2)) (.agg #[.string x.nm, .int .u8 x.sd]) true).run Try.prog (W6.drewN q) = .ok (.tuple #[.pointer (some ⟨cb2 j, 0, none⟩), .bool true]) (W6.drewN q) := fun q => look_some (hT2.below (pw_below_drewN (Below.refl _ _) q)) hf
     obtain ⟨cp2, hcp2, hct2⟩ := hT2.ct j hj
     obtain ⟨ex2, hvt2⟩ := hT2.vt j hj
     obtain ⟨y, hy⟩ : ∃ y, y = cs2[j] := ⟨_, rfl⟩
     have hys := HSZ2.out y (by rw [hy]; exact List.getElem_mem hj)
     have hyk := (get_some hgj).2
     rw [← hy] at hct2 hvt2 hcp2 hgj hyk
     have k2' : W6.cell? ⟨cb2 j, 0, none⟩ = some (.int .u8 y.kd) := by rw [cell_of hct2]; rfl
     have k3' : W6.cell? ⟨cb2 j, 1, none⟩ = some (.slice (some ⟨vb2 j, 0, none⟩) y.vs.length cp2) := by rw [cell_of hct2]; rfl
     have HC2 := Lib.hid (vals_C hvt2 hys)
     have HEV0 := Lib.hid (fun (W : World) (z : Below W6.heap.size W6 W) => api_Word_52.calls (x.vs.length + 1) (some ⟨vb1 i, 0, none⟩) cp1 x.vs (some ⟨vb2 j, 0, none⟩) cp2 y.vs (decide (x.vs = y.vs)) W (Kd.C_below HC1.out z) hcp1 (Kd.C_below HC2.out z) hcp2 (ev_f _ _ (by have := hxs.2.2; omega)))
     have HGJ := Lib.hid hgj
     have HYK := Lib.hid hyk
     clear hx hxm hxs hBR3 hb6 hB6 hT1 hT2 hct hvt hcp1 hbx hf hW6 hBq hct2 hvt2 hcp2 hy hys hj hgj hyk
     obtain ⟨nm, sd, kd, vs⟩ := x
     obtain ⟨nm2, sd2, kd2, vs2⟩ := y
     rw [← HBQ.out, ← HW6.out]
     go_quiet (fail)
     have hbq := pw_below_drewN (Below.refl W6.heap.size W6) nq
     have HBQ2 := Lib.hid hbq
     have m0 := pw_cell_below hbq k0'
     have m1 := pw_cell_below hbq k1'
     have m2 := pw_cell_below hbq k2'
     have m3 := pw_cell_below hbq k3'
     clear hl b0 b1 k0' k1' k2' k3' q5 hbq
     go_wp2_with fail
     generalize W6.drewN nq = W7 at m0 m1 m2 m3 HBQ2 ⊢
     have k0 : W7.drew.cell? ⟨cb1 i, 0, none⟩ = some (.int .u8 kd) := m0
     have k1 : W7.drew.cell? ⟨cb1 i, 1, none⟩ = some (.slice (some ⟨vb1 i, 0, none⟩) vs.length cp1) := m1
     have k2 : W7.drew.cell? ⟨cb2 j, 0, none⟩ = some (.int .u8 kd2) := m2
     have k3 : W7.drew.cell? ⟨cb2 j, 1, none⟩ = some (.slice (some ⟨vb2 j, 0, none⟩) vs2.length cp2) := m3
     have HEV := Lib.hid (HEV0.out W7.drew (below_then HBQ2.out HBQ2.out.size (below_drew1 (Below.refl _ _))))
     have HB7 := Lib.hid (below_then HB6.out HB6.out.size (below_then HBQ2.out HBQ2.out.size (below_drew1 (Below.refl _ _))))
     clear m0 m1 m2 m3 HEV0
     by_cases hkd : kd = kd2
     ·have hbk : (kd != kd2) = false := by rw [hkd]; simp
      have HYES : Hid (vs = vs2 → ∀ k ∈ (seen.push i).toList, ∀ hk : k < cs1.length, get? cs2 cs1[k].nm cs1[k].sd = some cs1[k]) := Lib.hid fun hvs k hk hkl => by
       rw [Array.toList_push, List.mem_append, List.mem_singleton] at hk
       rcases hk with hk | rfl
       ·exact HA.out k hk hkl
       ·have hy := HYK.out
        rw [← HX.out, HGJ.out]
        show some (⟨nm2, sd2, kd2, vs2⟩ : Cl) = some ⟨nm, sd, kd, vs⟩
        rw [show nm2 = nm from hy.1, show sd2 = sd from hy.2, hkd, hvs]
      have HNO : Hid (vs ≠ vs2 → res = false) := Lib.hid fun hvs => HMS.out _ HGJ.out (fun z => hvs (by injection z with z; injection z with _ _ _ z; exact z.symm))
      obtain ⟨dq, hdq⟩ : ∃ dq, dq = decide (vs = vs2) := ⟨_, rfl⟩
      rw [← hdq] at HEV
      have HDQ := Lib.hid hdq
      clear hkd hdq
      refine start_ (n := 25) (S := fun w' => w'.cell? ⟨cb1 i, 0, none⟩ = some (.int .u8 kd) ∧ w'.cell? ⟨cb1 i, 1, none⟩ = some (.slice (some ⟨vb1 i, 0, none⟩) vs.length cp1) ∧ w'.cell? ⟨cb2 j, 0, none⟩ = some (.int .u8 kd2) ∧ w'.cell? ⟨cb2 j, 1, none⟩ = some (.slice (some ⟨vb2 j, 0, none⟩) vs2.length cp2)) (ds := []) #[false,false,false,false,false,false,false,false,false,false,false,false,false,false,false,false,false,false,false,false,false,false,false,false,false] (by kernel_rfl) rfl rfl ⟨k0, k1, k2, k3⟩ (fun hHeld => ?_)
      refine pure_ (i := 0) (N := some 69) (v := ?_) (a' := ?_) #[true,false,false,false,false,false,false,false,false,false,false,false,false,false,false,false,false,false,false,false,false,false,false,false,false] rfl rfl (by as_aux_lemma => kernel_rfl) (fun _ _ _ h => h) (Or.inl ⟨by rfl, ?_⟩) ?_ ?_
      rotate_left
      ·intro w'
       go_simp
       with_reducible rfl
      rotate_left
      ·simp only [Act.put, List.setIfInBounds_toArray, List.set_cons_zero, List.set_cons_succ, i64_w, i32_w]
       rfl
      refine pure_ (i := 1) (N := some 70) (v := ?_) (a' := ?_) #[true,true,false,false,false,false,false,false,false,false,false,false,false,false,false,false,false,false,false,false,false,false,false,false,false] rfl rfl (by as_aux_lemma => kernel_rfl) (fun _ _ _ h => h) (Or.inl ⟨by rfl, ?_⟩) ?_ ?_
      rotate_left
      ·intro w'
       go_simp
       with_reducible rfl
      rotate_left
      ·simp only [Act.put, List.setIfInBounds_toArray, List.set_cons_zero, List.set_cons_succ, i64_w, i32_w]
       rfl
      refine pure_ (i := 2) (N := some 71) (v := ?_) (a' := ?_) #[true,true,true,false,false,false,false,false,false,false,false,false,false,false,false,false,false,false,false,false,false,false,false,false,false] rfl rfl (by as_aux_lemma => kernel_rfl) (fun _ _ _ h => h) (Or.inl ⟨by rfl, ?_⟩) ?_ ?_
      rotate_left
      ·intro w'
       go_simp
       with_reducible rfl
      rotate_left
      ·simp only [Act.put, List.setIfInBounds_toArray, List.set_cons_zero, List.set_cons_succ, i64_w, i32_w]
       rfl
      refine pure_ (i := 3) (N := some 72) (v := ?_) (a' := ?_) #[true,true,true,true,false,false,false,false,false,false,false,false,false,false,false,false,false,false,false,false,false,false,false,false,false] rfl rfl (by as_aux_lemma => kernel_rfl) (fun _ _ _ h => h) (Or.inl ⟨by rfl, ?_⟩) ?_ ?_
      rotate_left
      ·intro w'
       go_simp
       with_reducible rfl
      rotate_left
      ·simp only [Act.put, List.setIfInBounds_toArray, List.set_cons_zero, List.set_cons_succ, i64_w, i32_w]
       rfl
      refine pure_ (i := 4) (N := some 73) (v := ?_) (a' := ?_) #[true,true,true,true,true,false,false,false,false,false,false,false,false,false,false,false,false,false,false,false,false,false,false,false,false] rfl rfl (by as_aux_lemma => kernel_rfl) (fun _ _ _ h => h) (Or.inl ⟨by rfl, ?_⟩) ?_ ?_
      rotate_left
      ·intro w'
       go_simp
       with_reducible rfl
      rotate_left
      ·simp only [Act.put, List.setIfInBounds_toArray, List.set_cons_zero, List.set_cons_succ, i64_w, i32_w]
       rfl
      refine pure_ (i := 5) (N := some 74) (v := ?_) (a' := ?_) #[true,true,true,true,true,true,false,false,false,false,false,false,false,false,false,false,false,false,false,false,false,false,false,false,false] rfl rfl (by as_aux_lemma => kernel_rfl) (fun _ _ _ h => h) (Or.inl ⟨by rfl, ?_⟩) ?_ ?_
      rotate_left
      ·intro w'
       go_simp
       with_reducible rfl
      rotate_left
      ·simp only [Act.put, List.setIfInBounds_toArray, List.set_cons_zero, List.set_cons_succ, i64_w, i32_w]
       rfl
      refine pure_ (i := 7) (N := some 76) (v := ?_) (a' := ?_) #[true,true,true,true,true,true,false,true,false,false,false,false,false,false,false,false,false,false,false,false,false,false,false,false,false] rfl rfl (by as_aux_lemma => kernel_rfl) (fun _ _ _ h => h) (Or.inl ⟨by rfl, ?_⟩) ?_ ?_
      rotate_left
      ·intro w'
       go_simp
       with_reducible rfl
      rotate_left
      ·simp only [Act.put, List.setIfInBounds_toArray, List.set_cons_zero, List.set_cons_succ, i64_w, i32_w]
       rfl
      refine pure_ (i := 8) (N := some 77) (v := ?_) (a' := ?_) #[true,true,true,true,true,true,false,true,true,false,false,false,false,false,false,false,false,false,false,false,false,false,false,false,false] rfl rfl (by as_aux_lemma => kernel_rfl) (fun _ _ _ h => h) (Or.inl ⟨by rfl, ?_⟩) ?_ ?_
      rotate_left
      ·intro w'
       go_simp
       with_reducible rfl
      rotate_left
      ·simp only [Act.put, List.setIfInBounds_toArray, List.set_cons_zero, List.set_cons_succ, i64_w, i32_w]
       rfl
      refine pure_ (i := 9) (N := some 78) (v := ?_) (a' := ?_) #[true,true,true,true,true,true,false,true,true,true,false,false,false,false,false,false,false,false,false,false,false,false,false,false,false] rfl rfl (by as_aux_lemma => kernel_rfl) (fun _ _ _ h => h) (Or.inl ⟨by rfl, ?_⟩) ?_ ?_
      rotate_left
      ·intro w'
       go_simp
       with_reducible rfl
      rotate_left
      ·simp only [Act.put, List.setIfInBounds_toArray, List.set_cons_zero, List.set_cons_succ, i64_w, i32_w]
       rfl
      refine take_ (i := 6) (N := some 75) (v := ?_) (a' := ?_) #[true,true,true,true,true,true,true,true,true,true,false,false,false,false,false,false,false,false,false,false,false,false,false,false,false] rfl rfl (by as_aux_lemma => kernel_rfl) (fun _ _ _ h => h) (Or.inl ⟨by rfl, ?_⟩) hHeld ?_ ?_
      rotate_left
      ·rintro w' ⟨s0, s1, s2, s3⟩
       go_simp
       with_reducible rfl
      rotate_left
      ·simp only [Act.put, List.setIfInBounds_toArray, List.set_cons_zero, List.set_cons_succ, i64_w, i32_w]
       rfl
      refine take_ (i := 10) (N := some 79) (v := ?_) (a' := ?_) #[true,true,true,true,true,true,true,true,true,true,true,false,false,false,false,false,false,false,false,false,false,false,false,false,false] rfl rfl (by as_aux_lemma => kernel_rfl) (fun _ _ _ h => h) (Or.inl ⟨by rfl, ?_⟩) hHeld ?_ ?_
      rotate_left
      ·rintro w' ⟨s0, s1, s2, s3⟩
       go_simp
       with_reducible rfl
      rotate_left
      ·simp only [Act.put, List.setIfInBounds_toArray, List.set_cons_zero, List.set_cons_succ, i64_w, i32_w]
       rfl
      refine pure_ (i := 11) (N := some 80) (v := ?_) (a' := ?_) #[true,true,true,true,true,true,true,true,true,true,true,true,false,false,false,false,false,false,false,false,false,false,false,false,false] rfl rfl (by as_aux_lemma => kernel_rfl) (fun _ _ _ h => h) (Or.inl ⟨by rfl, ?_⟩) ?_ ?_
      rotate_left
      ·intro w'
       go_simp
       with_reducible rfl
      rotate_left
      ·simp only [Act.put, List.setIfInBounds_toArray, List.set_cons_zero, List.set_cons_succ, i64_w, i32_w]
       rfl
      refine pure_ (i := 12) (N := some 81) (v := ?_) (a' := ?_) #[true,true,true,true,true,true,true,true,true,true,true,true,true,false,false,false,false,false,false,false,false,false,false,false,false] rfl rfl (by as_aux_lemma => kernel_rfl) (fun _ _ _ h => h) (Or.inl ⟨by rfl, ?_⟩) ?_ ?_
      rotate_left
      ·intro w'
       go_simp
       with_reducible rfl
      rotate_left
      ·simp only [Act.put, List.setIfInBounds_toArray, List.set_cons_zero, List.set_cons_succ, i64_w, i32_w]
       rfl
      refine pure_ (i := 13) (N := some 82) (v := ?_) (a' := ?_) #[true,true,true,true,true,true,true,true,true,true,true,true,true,true,false,false,false,false,false,false,false,false,false,false,false] rfl rfl (by as_aux_lemma => kernel_rfl) (fun _ _ _ h => h) (Or.inl ⟨by rfl, ?_⟩) ?_ ?_
      rotate_left
      ·intro w'
       go_simp
       with_reducible rfl
      rotate_left
      ·simp only [Act.put, List.setIfInBounds_toArray, List.set_cons_zero, List.set_cons_succ, i64_w, i32_w]
       rfl
      refine pure_ (i := 14) (N := some 83) (v := ?_) (a' := ?_) #[true,true,true,true,true,true,true,true,true,true,true,true,true,true,true,false,false,false,false,false,false,false,false,false,false] rfl rfl (by as_aux_lemma => kernel_rfl) (fun _ _ _ h => h) (Or.inl ⟨by rfl, ?_⟩) ?_ ?_
      rotate_left
      ·intro w'
       go_simp
       with_reducible rfl
      rotate_left
      ·simp only [Act.put, List.setIfInBounds_toArray, List.set_cons_zero, List.set_cons_succ, i64_w, i32_w]
       rfl
      refine pure_ (i := 15) (N := some 84) (v := ?_) (a' := ?_) #[true,true,true,true,true,true,true,true,true,true,true,true,true,true,true,true,false,false,false,false,false,false,false,false,false] rfl rfl (by as_aux_lemma => kernel_rfl) (fun _ _ _ h => h) (Or.inl ⟨by rfl, ?_⟩) ?_ ?_
      rotate_left
      ·intro w'
       go_simp
       with_reducible rfl
      rotate_left
      ·simp only [Act.put, List.setIfInBounds_toArray, List.set_cons_zero, List.set_cons_succ, i64_w, i32_w]
       rfl
      refine pure_ (i := 16) (N := some 85) (v := ?_) (a' := ?_) #[true,true,true,true,true,true,true,true,true,true,true,true,true,true,true,true,true,false,false,false,false,false,false,false,false] rfl rfl (by as_aux_lemma => kernel_rfl) (fun _ _ _ h => h) (Or.inl ⟨by rfl, ?_⟩) ?_ ?_
      rotate_left
      ·intro w'
       go_simp
       with_reducible rfl
      rotate_left
      ·simp only [Act.put, List.setIfInBounds_toArray, List.set_cons_zero, List.set_cons_succ, i64_w, i32_w]
       rfl
      refine pure_ (i := 18) (N := some 87) (v := ?_) (a' := ?_) #[true,true,true,true,true,true,true,true,true,true,true,true,true,true,true,true,true,false,true,false,false,false,false,false,false] rfl rfl (by as_aux_lemma => kernel_rfl) (fun _ _ _ h => h) (Or.inl ⟨by rfl, ?_⟩) ?_ ?_
      rotate_left
      ·intro w'
       go_simp
       with_reducible rfl
      rotate_left
      ·simp only [Act.put, List.setIfInBounds_toArray, List.set_cons_zero, List.set_cons_succ, i64_w, i32_w]
       rfl
      refine pure_ (i := 19) (N := some 88) (v := ?_) (a' := ?_) #[true,true,true,true,true,true,true,true,true,true,true,true,true,true,true,true,true,false,true,true,false,false,false,false,false] rfl rfl (by as_aux_lemma => kernel_rfl) (fun _ _ _ h => h) (Or.inl ⟨by rfl, ?_⟩) ?_ ?_
      rotate_left
      ·intro w'
       go_simp
       with_reducible rfl
      rotate_left
      ·simp only [Act.put, List.setIfInBounds_toArray, List.set_cons_zero, List.set_cons_succ, i64_w, i32_w]
       rfl
      refine pure_ (i := 20) (N := some 89) (v := ?_) (a' := ?_) #[true,true,true,true,true,true,true,true,true,true,true,true,true,true,true,true,true,false,true,true,true,false,false,false,false] rfl rfl (by as_aux_lemma => kernel_rfl) (fun _ _ _ h => h) (Or.inl ⟨by rfl, ?_⟩) ?_ ?_
      rotate_left
      ·intro w'
       go_simp
       with_reducible rfl
      rotate_left
      ·simp only [Act.put, List.setIfInBounds_toArray, List.set_cons_zero, List.set_cons_succ, i64_w, i32_w]
       rfl
      refine take_ (i := 17) (N := some 86) (v := ?_) (a' := ?_) #[true,true,true,true,true,true,true,true,true,true,true,true,true,true,true,true,true,true,true,true,true,false,false,false,false] rfl rfl (by as_aux_lemma => kernel_rfl) (fun _ _ _ h => h) (Or.inl ⟨by rfl, ?_⟩) hHeld ?_ ?_
      rotate_left
      ·rintro w' ⟨s0, s1, s2, s3⟩
       go_simp
       with_reducible rfl
      rotate_left
      ·simp only [Act.put, List.setIfInBounds_toArray, List.set_cons_zero, List.set_cons_succ, i64_w, i32_w]
       rfl
      refine take_ (i := 21) (N := some 90) (v := ?_) (a' := ?_) #[true,true,true,true,true,true,true,true,true,true,true,true,true,true,true,true,true,true,true,true,true,true,false,false,false] rfl rfl (by as_aux_lemma => kernel_rfl) (fun _ _ _ h => h) (Or.inl ⟨by rfl, ?_⟩) hHeld ?_ ?_
      rotate_left
      ·rintro w' ⟨s0, s1, s2, s3⟩
       go_simp
       with_reducible rfl
      rotate_left
      ·simp only [Act.put, List.setIfInBounds_toArray, List.set_cons_zero, List.set_cons_succ, i64_w, i32_w]
       rfl
      refine one_ (i := 22) (N := some 91) #[true,true,true,true,true,true,true,true,true,true,true,true,true,true,true,true,true,true,true,true,true,true,true,false,false] rfl rfl (by as_aux_lemma => kernel_rfl) (by decide) (fun K hK => ?_)
      refine goes_ Try.func52 (by kernel_rfl) rfl #[.slice (some ⟨vb1 i, 0, none⟩) vs.length cp1, .slice (some ⟨vb2 j, 0, none⟩) vs2.length cp2] (by rfl) rfl rfl (by simp only [List.map_toArray, List.map_cons, List.map_nil]; rfl) ?_
      with_reducible refine (HEV.out).mono ?_
      rintro e_ w9 ⟨rfl, hd9⟩
      refine ⟨_, rfl, ?_⟩
      refine hK.out _ _ ⟨pw_cell_below (drawn0_below hd9) (hHeld.1), pw_cell_below (drawn0_below hd9) (hHeld.2.1), pw_cell_below (drawn0_below hd9) (hHeld.2.2.1), pw_cell_below (drawn0_below hd9) (hHeld.2.2.2)⟩ (fun hHeld => ?_)
      clear hK K
      refine norm_ (a' := ?_) ?_ ?_
      rotate_left
      ·show Act.put _ (some 91) _ = _
       simp only [Act.put, List.setIfInBounds_toArray, List.set_cons_zero, List.set_cons_succ, i64_w, i32_w]
       rfl
      refine pure_ (i := 23) (N := some 92) (v := ?_) (a' := ?_) #[true,true,true,true,true,true,true,true,true,true,true,true,true,true,true,true,true,true,true,true,true,true,true,true,false] rfl rfl (by as_aux_lemma => kernel_rfl) (fun _ _ _ h => h) (Or.inl ⟨by rfl, ?_⟩) ?_ ?_
      rotate_left
      ·intro w'
       go_simp
       with_reducible rfl
      rotate_left
      ·simp only [Act.put, List.setIfInBounds_toArray, List.set_cons_zero, List.set_cons_succ, i64_w, i32_w]
       rfl
      refine pure_ (i := 24) (N := some 93) (v := ?_) (a' := ?_) #[true,true,true,true,true,true,true,true,true,true,true,true,true,true,true,true,true,true,true,true,true,true,true,true,true] rfl rfl (by as_aux_lemma => kernel_rfl) (fun _ _ _ h => h) (Or.inl ⟨by rfl, ?_⟩) ?_ ?_
      rotate_left
      ·intro w'
       go_simp
       with_reducible rfl
      rotate_left
      ·simp only [Act.put, List.setIfInBounds_toArray, List.set_cons_zero, List.set_cons_succ, i64_w, i32_w]
       rfl
      refine done_ (by kernel_rfl) ?_
      cases dq with
      | true =>
       have HNEW := Lib.hid (HYES.out (of_decide_eq_true HDQ.out.symm))
       go_wp2_with fail
       have hB9 := below_then HB7.out HB7.out.size (drawn0_below hd9)
       have hR9 := HR6.out.below (below_then HBQ2.out HBQ2.out.size (below_then (below_drew1 (Below.refl _ _)) (below_drew1 (Below.refl W7.heap.size W7)).size (drawn0_below hd9)))
       have hseq := hR9.seen_eq
       refine ⟨⟨seen.push i, hR9, HNEW.out, hB9⟩, ?_⟩
       rw [hseq, hsn, Array.size_push]
       have := HSL.out
       rw [ents_len] at this
       omega
      | false =>
       have HRF := Lib.hid (HNO.out (of_decide_eq_false HDQ.out.symm))
       go_wp2_with fail
       go_ret
       exact ⟨by rw [HRF.out]; rfl, below_then HB7.out HB7.out.size (drawn0_below hd9)⟩
     ·have hbk : (kd != kd2) = true := by simpa using hkd
      have HRF := Lib.hid (HMS.out _ HGJ.out (fun z => hkd (by injection z with z; injection z with _ _ z _; exact z.symm)))
      clear hkd
      refine start_ (n := 25) (S := fun w' => w'.cell? ⟨cb1 i, 0, none⟩ = some (.int .u8 kd) ∧ w'.cell? ⟨cb1 i, 1, none⟩ = some (.slice (some ⟨vb1 i, 0, none⟩) vs.length cp1) ∧ w'.cell? ⟨cb2 j, 0, none⟩ = some (.int .u8 kd2) ∧ w'.cell? ⟨cb2 j, 1, none⟩ = some (.slice (some ⟨vb2 j, 0, none⟩) vs2.length cp2)) (ds := []) #[false,false,false,false,false,false,false,false,false,false,false,false,false,false,false,false,false,false,false,false,false,false,false,false,false] (by kernel_rfl) rfl rfl ⟨k0, k1, k2, k3⟩ (fun hHeld => ?_)
      refine pure_ (i := 0) (N := some 69) (v := ?_) (a' := ?_) #[true,false,false,false,false,false,false,false,false,false,false,false,false,false,false,false,false,false,false,false,false,false,false,false,false] rfl rfl (by as_aux_lemma => kernel_rfl) (fun _ _ _ h => h) (Or.inl ⟨by rfl, ?_⟩) ?_ ?_
      rotate_left
      ·intro w'
       go_simp
       with_reducible rfl
      rotate_left
      ·simp only [Act.put, List.setIfInBounds_toArray, List.set_cons_zero, List.set_cons_succ, i64_w, i32_w]
       rfl
      refine pure_ (i := 1) (N := some 70) (v := ?_) (a' := ?_) #[true,true,false,false,false,false,false,false,false,false,false,false,false,false,false,false,false,false,false,false,false,false,false,false,false] rfl rfl (by as_aux_lemma => kernel_rfl) (fun _ _ _ h => h) (Or.inl ⟨by rfl, ?_⟩) ?_ ?_
      rotate_left
      ·intro w'
       go_simp
       with_reducible rfl
      rotate_left
      ·simp only [Act.put, List.setIfInBounds_toArray, List.set_cons_zero, List.set_cons_succ, i64_w, i32_w]
       rfl
      refine pure_ (i := 2) (N := some 71) (v := ?_) (a' := ?_) #[true,true,true,false,false,false,false,false,false,false,false,false,false,false,false,false,false,false,false,false,false,false,false,false,false] rfl rfl (by as_aux_lemma => kernel_rfl) (fun _ _ _ h => h) (Or.inl ⟨by rfl, ?_⟩) ?_ ?_
      rotate_left
      ·intro w'
       go_simp
       with_reducible rfl
      rotate_left
      ·simp only [Act.put, List.setIfInBounds_toArray, List.set_cons_zero, List.set_cons_succ, i64_w, i32_w]
       rfl
      refine pure_ (i := 3) (N := some 72) (v := ?_) (a' := ?_) #[true,true,true,true,false,false,false,false,false,false,false,false,false,false,false,false,false,false,false,false,false,false,false,false,false] rfl rfl (by as_aux_lemma => kernel_rfl) (fun _ _ _ h => h) (Or.inl ⟨by rfl, ?_⟩) ?_ ?_
      rotate_left
      ·intro w'
       go_simp
       with_reducible rfl
      rotate_left
      ·simp only [Act.put, List.setIfInBounds_toArray, List.set_cons_zero, List.set_cons_succ, i64_w, i32_w]
       rfl
      refine pure_ (i := 4) (N := some 73) (v := ?_) (a' := ?_) #[true,true,true,true,true,false,false,false,false,false,false,false,false,false,false,false,false,false,false,false,false,false,false,false,false] rfl rfl (by as_aux_lemma => kernel_rfl) (fun _ _ _ h => h) (Or.inl ⟨by rfl, ?_⟩) ?_ ?_
      rotate_left
      ·intro w'
       go_simp
       with_reducible rfl
      rotate_left
      ·simp only [Act.put, List.setIfInBounds_toArray, List.set_cons_zero, List.set_cons_succ, i64_w, i32_w]
       rfl
      refine pure_ (i := 5) (N := some 74) (v := ?_) (a' := ?_) #[true,true,true,true,true,true,false,false,false,false,false,false,false,false,false,false,false,false,false,false,false,false,false,false,false] rfl rfl (by as_aux_lemma => kernel_rfl) (fun _ _ _ h => h) (Or.inl ⟨by rfl, ?_⟩) ?_ ?_
      rotate_left
      ·intro w'
       go_simp
       with_reducible rfl
      rotate_left
      ·simp only [Act.put, List.setIfInBounds_toArray, List.set_cons_zero, List.set_cons_succ, i64_w, i32_w]
       rfl
      refine pure_ (i := 7) (N := some 76) (v := ?_) (a' := ?_) #[true,true,true,true,true,true,false,true,false,false,false,false,false,false,false,false,false,false,false,false,false,false,false,false,false] rfl rfl (by as_aux_lemma => kernel_rfl) (fun _ _ _ h => h) (Or.inl ⟨by rfl, ?_⟩) ?_ ?_
      rotate_left
      ·intro w'
       go_simp
       with_reducible rfl
      rotate_left
      ·simp only [Act.put, List.setIfInBounds_toArray, List.set_cons_zero, List.set_cons_succ, i64_w, i32_w]
       rfl
      refine pure_ (i := 8) (N := some 77) (v := ?_) (a' := ?_) #[true,true,true,true,true,true,false,true,true,false,false,false,false,false,false,false,false,false,false,false,false,false,false,false,false] rfl rfl (by as_aux_lemma => kernel_rfl) (fun _ _ _ h => h) (Or.inl ⟨by rfl, ?_⟩) ?_ ?_
      rotate_left
      ·intro w'
       go_simp
       with_reducible rfl
      rotate_left
      ·simp only [Act.put, List.setIfInBounds_toArray, List.set_cons_zero, List.set_cons_succ, i64_w, i32_w]
       rfl
      refine pure_ (i := 9) (N := some 78) (v := ?_) (a' := ?_) #[true,true,true,true,true,true,false,true,true,true,false,false,false,false,false,false,false,false,false,false,false,false,false,false,false] rfl rfl (by as_aux_lemma => kernel_rfl) (fun _ _ _ h => h) (Or.inl ⟨by rfl, ?_⟩) ?_ ?_
      rotate_left
      ·intro w'
       go_simp
       with_reducible rfl
      rotate_left
      ·simp only [Act.put, List.setIfInBounds_toArray, List.set_cons_zero, List.set_cons_succ, i64_w, i32_w]
       rfl
      refine take_ (i := 6) (N := some 75) (v := ?_) (a' := ?_) #[true,true,true,true,true,true,true,true,true,true,false,false,false,false,false,false,false,false,false,false,false,false,false,false,false] rfl rfl (by as_aux_lemma => kernel_rfl) (fun _ _ _ h => h) (Or.inl ⟨by rfl, ?_⟩) hHeld ?_ ?_
      rotate_left
      ·rintro w' ⟨s0, s1, s2, s3⟩
       go_simp
       with_reducible rfl
      rotate_left
      ·simp only [Act.put, List.setIfInBounds_toArray, List.set_cons_zero, List.set_cons_succ, i64_w, i32_w]
       rfl
      refine take_ (i := 10) (N := some 79) (v := ?_) (a' := ?_) #[true,true,true,true,true,true,true,true,true,true,true,false,false,false,false,false,false,false,false,false,false,false,false,false,false] rfl rfl (by as_aux_lemma => kernel_rfl) (fun _ _ _ h => h) (Or.inl ⟨by rfl, ?_⟩) hHeld ?_ ?_
      rotate_left
      ·rintro w' ⟨s0, s1, s2, s3⟩
       go_simp
       with_reducible rfl
      rotate_left
      ·simp only [Act.put, List.setIfInBounds_toArray, List.set_cons_zero, List.set_cons_succ, i64_w, i32_w]
       rfl
      refine pure_ (i := 11) (N := some 80) (v := ?_) (a' := ?_) #[true,true,true,true,true,true,true,true,true,true,true,true,false,false,false,false,false,false,false,false,false,false,false,false,false] rfl rfl (by as_aux_lemma => kernel_rfl) (fun _ _ _ h => h) (Or.inl ⟨by rfl, ?_⟩) ?_ ?_
      rotate_left
      ·intro w'
       go_simp
       with_reducible rfl
      rotate_left
      ·simp only [Act.put, List.setIfInBounds_toArray, List.set_cons_zero, List.set_cons_succ, i64_w, i32_w]
       rfl
      refine pure_ (i := 12) (N := some 81) (v := ?_) (a' := ?_) #[true,true,true,true,true,true,true,true,true,true,true,true,true,false,false,false,false,false,false,false,false,false,false,false,false] rfl rfl (by as_aux_lemma => kernel_rfl) (fun _ _ _ h => h) (Or.inl ⟨by rfl, ?_⟩) ?_ ?_
      rotate_left
      ·intro w'
       go_simp
       with_reducible rfl
      rotate_left
      ·simp only [Act.put, List.setIfInBounds_toArray, List.set_cons_zero, List.set_cons_succ, i64_w, i32_w]
       rfl
      refine pure_ (i := 13) (N := some 82) (v := ?_) (a' := ?_) #[true,true,true,true,true,true,true,true,true,true,true,true,true,true,false,false,false,false,false,false,false,false,false,false,false] rfl rfl (by as_aux_lemma => kernel_rfl) (fun _ _ _ h => h) (Or.inl ⟨by rfl, ?_⟩) ?_ ?_
      rotate_left
      ·intro w'
       go_simp
       with_reducible rfl
      rotate_left
      ·simp only [Act.put, List.setIfInBounds_toArray, List.set_cons_zero, List.set_cons_succ, i64_w, i32_w]
       rfl
      refine pure_ (i := 14) (N := some 83) (v := undef) (a' := ?_) #[true,true,true,true,true,true,true,true,true,true,true,true,true,true,true,false,false,false,false,false,false,false,false,false,false] rfl rfl (by as_aux_lemma => kernel_rfl) (fun _ _ _ h => h) (Or.inr ⟨by rfl, rfl⟩) ?_ ?_
      rotate_left
      ·simp only [Act.put, List.setIfInBounds_toArray, List.set_cons_zero, List.set_cons_succ, i64_w, i32_w]
       rfl
      refine pure_ (i := 15) (N := some 84) (v := undef) (a' := ?_) #[true,true,true,true,true,true,true,true,true,true,true,true,true,true,true,true,false,false,false,false,false,false,false,false,false] rfl rfl (by as_aux_lemma => kernel_rfl) (fun _ _ _ h => h) (Or.inr ⟨by rfl, rfl⟩) ?_ ?_
      rotate_left
      ·simp only [Act.put, List.setIfInBounds_toArray, List.set_cons_zero, List.set_cons_succ, i64_w, i32_w]
       rfl
      refine pure_ (i := 16) (N := some 85) (v := undef) (a' := ?_) #[true,true,true,true,true,true,true,true,true,true,true,true,true,true,true,true,true,false,false,false,false,false,false,false,false] rfl rfl (by as_aux_lemma => kernel_rfl) (fun _ _ _ h => h) (Or.inr ⟨by rfl, rfl⟩) ?_ ?_
      rotate_left
      ·simp only [Act.put, List.setIfInBounds_toArray, List.set_cons_zero, List.set_cons_succ, i64_w, i32_w]
       rfl
      refine pure_ (i := 17) (N := some 86) (v := undef) (a' := ?_) #[true,true,true,true,true,true,true,true,true,true,true,true,true,true,true,true,true,true,false,false,false,false,false,false,false] rfl rfl (by as_aux_lemma => kernel_rfl) (fun _ _ _ h => h) (Or.inr ⟨by rfl, rfl⟩) ?_ ?_
      rotate_left
      ·simp only [Act.put, List.setIfInBounds_toArray, List.set_cons_zero, List.set_cons_succ, i64_w, i32_w]
       rfl
      refine pure_ (i := 18) (N := some 87) (v := undef) (a' := ?_) #[true,true,true,true,true,true,true,true,true,true,true,true,true,true,true,true,true,true,true,false,false,false,false,false,false] rfl rfl (by as_aux_lemma => kernel_rfl) (fun _ _ _ h => h) (Or.inr ⟨by rfl, rfl⟩) ?_ ?_
      rotate_left
      ·simp only [Act.put, List.setIfInBounds_toArray, List.set_cons_zero, List.set_cons_succ, i64_w, i32_w]
       rfl
      refine pure_ (i := 19) (N := some 88) (v := undef) (a' := ?_) #[true,true,true,true,true,true,true,true,true,true,true,true,true,true,true,true,true,true,true,true,false,false,false,false,false] rfl rfl (by as_aux_lemma => kernel_rfl) (fun _ _ _ h => h) (Or.inr ⟨by rfl, rfl⟩) ?_ ?_
      rotate_left
      ·simp only [Act.put, List.setIfInBounds_toArray, List.set_cons_zero, List.set_cons_succ, i64_w, i32_w]
       rfl
      refine pure_ (i := 20) (N := some 89) (v := undef) (a' := ?_) #[true,true,true,true,true,true,true,true,true,true,true,true,true,true,true,true,true,true,true,true,true,false,false,false,false] rfl rfl (by as_aux_lemma => kernel_rfl) (fun _ _ _ h => h) (Or.inr ⟨by rfl, rfl⟩) ?_ ?_
      rotate_left
      ·simp only [Act.put, List.setIfInBounds_toArray, List.set_cons_zero, List.set_cons_succ, i64_w, i32_w]
       rfl
      refine pure_ (i := 21) (N := some 90) (v := undef) (a' := ?_) #[true,true,true,true,true,true,true,true,true,true,true,true,true,true,true,true,true,true,true,true,true,true,false,false,false] rfl rfl (by as_aux_lemma => kernel_rfl) (fun _ _ _ h => h) (Or.inr ⟨by rfl, rfl⟩) ?_ ?_
      rotate_left
      ·simp only [Act.put, List.setIfInBounds_toArray, List.set_cons_zero, List.set_cons_succ, i64_w, i32_w]
       rfl
      refine pure_ (i := 22) (N := some 91) (v := undef) (a' := ?_) #[true,true,true,true,true,true,true,true,true,true,true,true,true,true,true,true,true,true,true,true,true,true,true,false,false] rfl rfl (by as_aux_lemma => kernel_rfl) (fun _ _ _ h => h) (Or.inr ⟨by rfl, rfl⟩) ?_ ?_
      rotate_left
      ·simp only [Act.put, List.setIfInBounds_toArray, List.set_cons_zero, List.set_cons_succ, i64_w, i32_w]
       rfl
      refine pure_ (i := 23) (N := some 92) (v := undef) (a' := ?_) #[true,true,true,true,true,true,true,true,true,true,true,true,true,true,true,true,true,true,true,true,true,true,true,true,false] rfl rfl (by as_aux_lemma => kernel_rfl) (fun _ _ _ h => h) (Or.inr ⟨by rfl, rfl⟩) ?_ ?_
      rotate_left
      ·simp only [Act.put, List.setIfInBounds_toArray, List.set_cons_zero, List.set_cons_succ, i64_w, i32_w]
       rfl
      refine pure_ (i := 24) (N := some 93) (v := ?_) (a' := ?_) #[true,true,true,true,true,true,true,true,true,true,true,true,true,true,true,true,true,true,true,true,true,true,true,true,true] rfl rfl (by as_aux_lemma => kernel_rfl) (fun _ _ _ h => h) (Or.inl ⟨by rfl, ?_⟩) ?_ ?_
      rotate_left
      ·intro w'
       go_simp
       with_reducible rfl
      rotate_left
      ·simp only [Act.put, List.setIfInBounds_toArray, List.set_cons_zero, List.set_cons_succ, i64_w, i32_w]
       rfl
      refine done_ (by kernel_rfl) ?_
      go_wp2_with fail
      go_ret
      exact ⟨by rw [HRF.out]; rfl, HB7.out⟩
 ·have hbn : ((cs1.length : Int) != (cs2.length : Int)) = true := by simp; omega
  have HRF : Hid (res = false) := Lib.hid (by
   rw [HRES.out, decide_eq_false]
   exact fun z => hlen z.1)
  clear hlen
  go_enter Try.func23, Try.ntmps23
  go_wp2_with fail
  go_quiet (fail)
  go_wp2_with fail
  go_ret
  exact ⟨by rw [HRF.out]; rfl, pw_below_drewN (Below.refl _ _) _⟩
end Go.Proofs.Ytpcjppefopjngaa.C
