/- Columns by names: Fork. -/
import Derived.Test.YtpcjppefopjngaaLb
import Derived.Test.YtpcjppefopjngaaRk
set_option linter.unusedSimpArgs false
set_option linter.unusedVariables false
namespace Go.Proofs.Ytpcjppefopjngaa.C
open Go.RowKit Go.Proofs.Ytpcjppefopjngaa.Sk Go.Proofs.Ytpcjppefopjngaa.PA Go.Proofs.Ytpcjppefopjngaa.Mp Go.Proofs.YtpcjppefopjngaaW.PrintWords Go.Proofs.YtpcjppefopjngaaW.PrintLast Go.Proofs.YtpcjppefopjngaaW.PrintMore
/-- The columns of some places. -/
def pick (cs : List Cl) (seen : Array Nat) : List Cl := seen.toList.map fun i => cs.getD i z0
theorem pick_push (cs : List Cl) (seen : Array Nat) (i : Nat) : pick cs (seen.push i) = pick cs seen ++ [cs.getD i z0] := by simp [pick]
theorem pick_perm {cs : List Cl} {seen : Array Nat} (h : seen.toList.Perm (List.range cs.length)) : (pick cs seen).Perm cs := by
 have h1 := h.map (fun i => cs.getD i z0)
 refine h1.trans ?_
 have : (List.range cs.length).map (fun i => cs.getD i z0) = cs := by
  apply List.ext_getElem (by simp)
  intro i h1 h2
  simp [List.getD, h2]
 rw [this]
theorem ents_apart {cs : List Cl} {cb : Nat → Nat} (h : (ents cs cb).Pairwise fun p q => p.1 ≠ q.1) {i j : Nat} (hi : i < cs.length) (hj : j < cs.length) (hij : i ≠ j) : cs[i].key ≠ cs[j].key := by
 rw [List.pairwise_iff_getElem] at h
 have hg : ∀ k (hk : k < cs.length), ((ents cs cb)[k]'(by rw [ents_len]; exact hk)).1 = cs[k].key := fun k hk => by
  have := ents_at (cb := cb) hk
  rw [List.getElem?_eq_getElem (by rw [ents_len]; exact hk)] at this
  injection this with this
  rw [this]
 rcases Nat.lt_or_ge i j with q | q
 ·have := h i j (by rw [ents_len]; exact hi) (by rw [ents_len]; exact hj) q
  rw [hg i hi, hg j hj] at this
  exact this
 ·have := h j i (by rw [ents_len]; exact hj) (by rw [ents_len]; exact hi) (by omega)
  rw [hg i hi, hg j hj] at this
  exact fun e => this e.symm
theorem ents_out {cs : List Cl} {cb : Nat → Nat} {i : Nat} {key v : Value} (h : (ents cs cb)[i]? = some (key, v)) : ∃ hi : i < cs.length, cs[i].key = key ∧ .pointer (some ⟨cb i, 0, none⟩) = v := by
 have hi : i < cs.length := by
  have := (List.getElem?_eq_some_iff.1 h).1
  rw [ents_len] at this
  exact this
 rw [ents_at hi] at h
 injection h with h
 injection h with h1 h2
 exact ⟨hi, h1, h2⟩
theorem fork_below {W0 W W' : World} {mb : Nat} (hb : Below W0.heap.size W0 W) (hg : W.grownBy W' (some mb)) (hm : W0.heap.size ≤ mb) : Below W0.heap.size W0 W' :=
 hb.trans ⟨hg.os, hg.tape, hg.output, hg.size, fun k hk => hg.block k (Nat.lt_of_lt_of_le hk hb.size) (by intro z; injection z with z; omega)⟩
set_option maxRecDepth 100000 in
set_option maxHeartbeats 8000000 in
theorem fork_ok (g mb : Nat) (n e : Int) (cs : List Cl) (cb vb : Nat → Nat) (w : World) (h : IsT w g mb n e cs cb vb) (hN : inN n e) (hsz : ∀ c ∈ cs, c.nm.size ≤ maxLen ∧ (0 ≤ c.sd ∧ c.sd ≤ 255) ∧ c.vs.length ≤ 1000 ∧ 0 < c.vs.length) :
  Calls Try.prog 20 #[.pointer (some ⟨g, 0, none⟩)] w fun e_ w' => ∃ g2 mb2 cs2 cb2 vb2, e_ = .returned (.pointer (some ⟨g2, 0, none⟩)) ∧ IsT w' g2 mb2 n e cs2 cb2 vb2 ∧ cs2.Perm cs ∧ w.heap.size ≤ mb2 ∧ (∀ i, i < cs2.length → w.heap.size ≤ vb2 i) ∧ Below w.heap.size w w' := by
 have H0 := Lib.hid h
 have HSZ := Lib.hid hsz
 have t0 : w.cell? ⟨g, 0, none⟩ = some (I n) := by rw [cell_of h.tb]; rfl
 have t1 : w.cell? ⟨g, 1, none⟩ = some (I e) := by rw [cell_of h.tb]; rfl
 have t2 : w.cell? ⟨g, 2, none⟩ = some (.map (some mb)) := by rw [cell_of h.tb]; rfl
 clear h hsz
 go_enter Try.func20, Try.ntmps20
 go_wp2_with fail
 refine start_ (n := 10) (S := fun w' => w'.cell? ⟨g, 0, none⟩ = some (I n) ∧ w'.cell? ⟨g, 1, none⟩ = some (I e)) (ds := []) #[false,false,false,false,false,false,false,false,false,false] (by kernel_rfl) rfl rfl ⟨t0, t1⟩ (fun hHeld => ?_)
 refine pure_ (i := 0) (N := some 8) (v := ?_) (a' := ?_) #[true,false,false,false,false,false,false,false,false,false] rfl rfl (by kernel_rfl) (fun _ _ _ h => h) (Or.inl ⟨by rfl, ?_⟩) ?_ ?_
 rotate_left
 ·intro w'
  go_simp
  with_reducible rfl
 rotate_left
 ·simp only [Act.put, List.setIfInBounds_toArray, List.set_cons_zero, List.set_cons_succ, i64_w, i32_w]
  rfl
 refine pure_ (i := 1) (N := some 9) (v := ?_) (a' := ?_) #[true,true,false,false,false,false,false,false,false,false] rfl rfl (by kernel_rfl) (fun _ _ _ h => h) (Or.inl ⟨by rfl, ?_⟩) ?_ ?_
 rotate_left
 ·intro w'
  go_simp
  with_reducible rfl
 rotate_left
 ·simp only [Act.put, List.setIfInBounds_toArray, List.set_cons_zero, List.set_cons_succ, i64_w, i32_w]
  rfl
 refine pure_ (i := 2) (N := some 10) (v := ?_) (a' := ?_) #[true,true,true,false,false,false,false,false,false,false] rfl rfl (by kernel_rfl) (fun _ _ _ h => h) (Or.inl ⟨by rfl, ?_⟩) ?_ ?_
 rotate_left
 ·intro w'
  go_simp
  with_reducible rfl
 rotate_left
 ·simp only [Act.put, List.setIfInBounds_toArray, List.set_cons_zero, List.set_cons_succ, i64_w, i32_w]
  rfl
 refine pure_ (i := 4) (N := some 12) (v := ?_) (a' := ?_) #[true,true,true,false,true,false,false,false,false,false] rfl rfl (by kernel_rfl) (fun _ _ _ h => h) (Or.inl ⟨by rfl, ?_⟩) ?_ ?_
 rotate_left
 ·intro w'
  go_simp
  with_reducible rfl
 rotate_left
 ·simp only [Act.put, List.setIfInBounds_toArray, List.set_cons_zero, List.set_cons_succ, i64_w, i32_w]
  rfl
 refine pure_ (i := 5) (N := some 13) (v := ?_) (a' := ?_) #[true,true,true,false,true,true,false,false,false,false] rfl rfl (by kernel_rfl) (fun _ _ _ h => h) (Or.inl ⟨by rfl, ?_⟩) ?_ ?_
 rotate_left
 ·intro w'
  go_simp
  with_reducible rfl
 rotate_left
 ·simp only [Act.put, List.setIfInBounds_toArray, List.set_cons_zero, List.set_cons_succ, i64_w, i32_w]
  rfl
 refine pure_ (i := 6) (N := some 14) (v := ?_) (a' := ?_) #[true,true,true,false,true,true,true,false,false,false] rfl rfl (by kernel_rfl) (fun _ _ _ h => h) (Or.inl ⟨by rfl, ?_⟩) ?_ ?_
 rotate_left
 ·intro w'
  go_simp
  with_reducible rfl
 rotate_left
 ·simp only [Act.put, List.setIfInBounds_toArray, List.set_cons_zero, List.set_cons_succ, i64_w, i32_w]
  rfl
 refine take_ (i := 3) (N := some 11) (v := ?_) (a' := ?_) #[true,true,true,true,true,true,true,false,false,false] rfl rfl (by kernel_rfl) (fun _ _ _ h => h) (Or.inl ⟨by rfl, ?_⟩) hHeld ?_ ?_
 rotate_left
 ·rintro w' ⟨s0, s1⟩
  go_simp
  with_reducible rfl
 rotate_left
 ·simp only [Act.put, List.setIfInBounds_toArray, List.set_cons_zero, List.set_cons_succ, i64_w, i32_w]
  rfl
 refine take_ (i := 7) (N := some 15) (v := ?_) (a' := ?_) #[true,true,true,true,true,true,true,true,false,false] rfl rfl (by kernel_rfl) (fun _ _ _ h => h) (Or.inl ⟨by rfl, ?_⟩) hHeld ?_ ?_
 rotate_left
 ·rintro w' ⟨s0, s1⟩
  go_simp
  with_reducible rfl
 rotate_left
 ·simp only [Act.put, List.setIfInBounds_toArray, List.set_cons_zero, List.set_cons_succ, i64_w, i32_w]
  rfl
 refine one_ (i := 8) (N := some 16) #[true,true,true,true,true,true,true,true,true,false] rfl rfl (by kernel_rfl) (by decide) (fun K hK => ?_)
 refine goes_ Try.func30 (by kernel_rfl) rfl #[I n, I e] (by rfl) rfl rfl (by simp only [List.map_toArray, List.map_cons, List.map_nil]; rfl) ?_
 with_reducible refine (new_ok n e _ hN).mono ?_
 rintro e_ w1 ⟨g2, mb2, rfl, hT2, hg2, hm2, hb1⟩
 refine ⟨_, rfl, ?_⟩
 have hB1 := below_step (below_drew1 (Below.refl w.heap.size w)) hb1
 refine hK.out _ _ ⟨pw_cell_below hB1 t0, pw_cell_below hB1 t1⟩ (fun hHeld => ?_)
 clear hK K
 refine norm_ (a' := ?_) ?_ ?_
 rotate_left
 ·show Act.put _ (some 16) _ = _
  simp only [Act.put, List.setIfInBounds_toArray, List.set_cons_zero, List.set_cons_succ, i64_w, i32_w]
  rfl
 refine pure_ (i := 9) (N := some 3) (v := ?_) (a' := ?_) #[true,true,true,true,true,true,true,true,true,true] rfl rfl (by kernel_rfl) (fun _ _ _ h => h) (Or.inl ⟨by rfl, ?_⟩) ?_ ?_
 rotate_left
 ·intro w'
  go_simp
  with_reducible rfl
 rotate_left
 ·simp only [Act.put, List.setIfInBounds_toArray, List.set_cons_zero, List.set_cons_succ, i64_w, i32_w]
  rfl
 refine done_ (by kernel_rfl) ?_
 have u2 := pw_cell_below hB1 t2
 have HT2 := Lib.hid hT2
 have HB1 := Lib.hid hB1
 have HM1 := Lib.hid (H0.out.below hB1).mp
 have hm2' : w.heap.size ≤ mb2 := hm2
 clear hT2 hB1 hHeld hb1 hm2 hg2 t0 t1 t2
 go_wp2_with (at_range; refine wpList_range_is rfl (.tmp 20) 91 rfl (k := 25) (e := 75) Try.underlying91 rfl HM1.out ?_; intro w2 hrg hg5 hs5)
 try go_frame
 obtain ⟨R, hR⟩ : ∃ R, R = w1.heap.size := ⟨_, rfl⟩
 have hmR : mb2 < R := by rw [hR]; exact HT2.out.mp.lt
 have hbw2 : Below w1.heap.size w1 w2 := ⟨hg5.os, hg5.tape, hg5.output, hg5.size, fun k hk => hg5.block k hk (by simp)⟩
 rw [← hR] at hrg ⊢
 have HRG0 := Lib.hid hrg
 have HB2 := Lib.hid (below_then HB1.out HB1.out.size hbw2)
 have HT2b := Lib.hid (HT2.out.below hbw2)
 clear hrg hg5 hs5 hbw2 hR u2
 go_loopw [5] (fun _ wr => ∃ (seen : Array Nat) (cb2 vb2 : Nat → Nat), RangeIs wr mb R (ents cs cb) seen ∧ IsT wr g2 mb2 n e (pick cs seen) cb2 vb2 ∧ (∀ i, i < (pick cs seen).length → w.heap.size ≤ vb2 i) ∧ Below w.heap.size w wr) (fun _ wr => cs.length - seenOf wr R)
 case atStart => exact ⟨#[], _, _, HRG0.out, HT2b.out, fun i hi => by simp [pick] at hi, HB2.out⟩
 case round =>
  clear HRG0 HB2 HT2b HT2 HM1 HB1
  obtain ⟨seen, cb2, vb2, hrg, hT, hV, hb⟩ := hrel
  have HRG := Lib.hid hrg
  have HT := Lib.hid hT
  have HV := Lib.hid hV
  have HB := Lib.hid hb
  have hsn := hrg.seen_eq
  clear hrg hT hV hb
  go_wp2_with (at_next; refine wpList_next_is rfl (.tmp 21) rfl rfl HRG.out ?_ ?_ <;> first | (intro hperm; have HP := Lib.hid hperm; clear hperm) | (intro i key v w3 hmi hsl hrg3 hg3 hs3 hen; obtain ⟨hi, rfl, rfl⟩ := ents_out hmi; unfold Cl.key ke at hen; have HI := Lib.hid hi; have HSL := Lib.hid hsl; have HRG3 := Lib.hid hrg3; have HG3 := Lib.hid hg3; have HS3 := Lib.hid hs3; clear hmi hsl hrg3 hg3 hs3))
  ·have HPP := Lib.hid (pick_perm (cs := cs) (seen := seen) (by have := HP.out; rw [ents_len] at this; exact this))
   clear hsn
   go_wp2_with fail
   go_ret
   exact ⟨g2, mb2, _, _, _, rfl, HT.out, HPP.out, hm2', HV.out, HB.out⟩
  ·have hi := HI.out
   obtain ⟨x, hx⟩ : ∃ x, x = cs[i] := ⟨_, rfl⟩
   rw [← hx]
   have hxs := HSZ.out x (by rw [hx]; exact List.getElem_mem hi)
   have hBR3 : Below w.heap.size w w3 := ⟨HG3.out.os.trans HB.out.os, HG3.out.tape.trans HB.out.tape, HG3.out.output.trans HB.out.output, Nat.le_trans HB.out.size HG3.out.size, fun k hk => (HG3.out.block k (Nat.lt_of_lt_of_le hk HB.out.size) (by intro z; injection z with z; omega)).trans (HB.out.block k hk)⟩
   have hT3 : IsT w3 g2 mb2 n e (pick cs seen) cb2 vb2 := by
    have hh := HT.out
    have hne : ∀ {b : Nat} {c : Array Value} {t : TypeId}, wr.heap[b]? = some (.cells c t (0, 0)) → w3.heap[b]? = wr.heap[b]? := fun {b c t} hb => HG3.out.block b (Array.getElem?_eq_some_iff.1 hb).1 (by intro z; injection z with z; exact (HRG.out.ne_cells hb).2 z.symm)
    exact hh.frame HG3.out.size (hne hh.tb) (HG3.out.block mb2 hh.mp.lt (by intro z; injection z with z; omega)) (fun k hk => hne (hh.cx k hk)) (fun k hk => hne (hh.vx k hk))
   obtain ⟨W6, hW6⟩ : ∃ W6, W6 = w3.alloc (.cells #[.string x.nm, .int .u8 x.sd] 25) := ⟨_, rfl⟩
   have hb6 : Below w3.heap.size w3 W6 := by rw [hW6]; exact below_alloc (Below.refl _ w3) _
   have hB6 : Below w.heap.size w W6 := below_then hBR3 hBR3.size hb6
   have hT0 := H0.out.below (below_drew hB6)
   have hT6 := hT3.below hb6
   obtain ⟨cp, hcp, hct⟩ := hT0.ct i hi
   obtain ⟨ex, hvt⟩ := hT0.vt i hi
   rw [← hx] at hct hvt hcp hen
   obtain ⟨m, hm⟩ : ∃ m, m = x.vs.length := ⟨_, rfl⟩
   have hcl := cloneW (some ⟨vb i, 0, none⟩) cp x.vs W6.drew (vals_C hvt hxs.2.2.1) (by have := hxs.2.2.1; omega)
   obtain ⟨lk, hlk⟩ := key_ok x.nm x.sd hxs.1 (lit_u8 hxs.2.1.1 hxs.2.1.2)
   have hnk : ∀ p ∈ ents (pick cs seen) cb2, p.1 ≠ ke x.nm x.sd := fun p hp he => by
    obtain ⟨c, hc, hp1⟩ := ents_mem hp
    obtain ⟨j, hj, rfl⟩ := List.mem_map.1 hc
    have hjl : j < cs.length := by have := HRG.out.inb j hj; rw [ents_len] at this; exact this
    rw [show cs.getD j z0 = cs[j] by simp [List.getD, hjl]] at hp1
    have hnd := HRG3.out.nodup
    rw [Array.toList_push, List.nodup_append] at hnd
    have hij : i ≠ j := fun z => hnd.2.2 j hj i (by simp) z.symm
    refine ents_apart H0.out.mp.apart hi hjl hij ?_
    rw [← hp1, he, ← hx]
    rfl
   obtain ⟨B, hBq⟩ : ∃ B, B = w3.heap.size := ⟨_, rfl⟩
   have hbx : W6.heap[B]? = some (.cells #[.string x.nm, .int .u8 x.sd] 25 (0, 0)) := by rw [hW6, hBq]; exact heap_alloc_new w3 _
   have HT2y := Lib.hid (hT6.below (below_drew1 (Below.refl W6.heap.size W6)))
   have HCL0 := Lib.hid hcl
   have HLK := Lib.hid hlk
   have HNK := Lib.hid hnk
   have HR6 := Lib.hid ((HRG3.out.below hb6).below (below_drew1 (Below.refl W6.heap.size W6)))
   have HB6 := Lib.hid (below_drew hB6)
   have hm0 : 0 < m := by rw [hm]; exact hxs.2.2.2
   have k0 : W6.drew.cell? ⟨g2, 2, none⟩ = some (.map (some mb2)) := by rw [cell_of HT2y.out.tb]; rfl
   have k1 : W6.drew.cell? ⟨B, 0, none⟩ = some (.string x.nm) := by rw [cell_of (show W6.drew.heap[B]? = _ from hbx)]; rfl
   have k2 : W6.drew.cell? ⟨B, 1, none⟩ = some (.int .u8 x.sd) := by rw [cell_of (show W6.drew.heap[B]? = _ from hbx)]; rfl
   have k3 : W6.drew.cell? ⟨cb i, 0, none⟩ = some (.int .u8 x.kd) := by rw [cell_of hct]; rfl
   have k4 : W6.drew.cell? ⟨cb i, 1, none⟩ = some (.slice (some ⟨vb i, 0, none⟩) m cp) := by rw [cell_of hct, hm]; rfl
   have hxg : cs.getD i z0 = x := by rw [hx]; simp [List.getD, hi]
   have hpp : pick cs (seen.push i) = pick cs seen ++ [x] := by rw [pick_push, hxg]
   have HPP := Lib.hid hpp
   have HXS := Lib.hid hxs
   obtain ⟨nm, sd, kd, vs⟩ := x
   have HMV : Hid (vs.length = m) := Lib.hid hm.symm
   have HCL : Hid (Calls Try.prog 47 #[.slice (some ⟨vb i, 0, none⟩) m cp] W6.drew fun e w' => ∃ v, e = .returned v ∧ Kd.R (Kd.int .i64) 33 w' W6.drew.heap.size (fun _ => True) v vs ∧ Below W6.drew.heap.size W6.drew w') := Lib.hid (by have := HCL0.out; rw [show vs.length = m from hm.symm] at this; exact this)
   have HW6 := Lib.hid hW6
   have HBQ := Lib.hid hBq
   clear hx hcl hlk hnk hbx hT3 hT6 hT0 hct hvt hcp hb6 hB6 hBR3 hxg hpp hxs hm HCL0 hi hW6 hBq
   rw [← HBQ.out, ← HW6.out]
   refine start_ (n := 17) (S := fun w' => w'.cell? ⟨g2, 2, none⟩ = some (.map (some mb2)) ∧ w'.cell? ⟨B, 0, none⟩ = some (.string nm) ∧ w'.cell? ⟨B, 1, none⟩ = some (.int .u8 sd) ∧ w'.cell? ⟨cb i, 0, none⟩ = some (.int .u8 kd) ∧ w'.cell? ⟨cb i, 1, none⟩ = some (.slice (some ⟨vb i, 0, none⟩) m cp)) (ds := [16]) #[false,false,false,false,false,false,false,false,false,false,false,false,false,false,false,false,false] (by kernel_rfl) rfl rfl ⟨k0, k1, k2, k3, k4⟩ (fun hHeld => ?_)
   refine pure_ (i := 0) (N := some 27) (v := ?_) (a' := ?_) #[true,false,false,false,false,false,false,false,false,false,false,false,false,false,false,false,false] rfl rfl (by kernel_rfl) (fun _ _ _ h => h) (Or.inl ⟨by rfl, ?_⟩) ?_ ?_
   rotate_left
   ·intro w'
    go_simp
    with_reducible rfl
   rotate_left
   ·simp only [Act.put, List.setIfInBounds_toArray, List.set_cons_zero, List.set_cons_succ, i64_w, i32_w]
    rfl
   refine pure_ (i := 1) (N := some 28) (v := ?_) (a' := ?_) #[true,true,false,false,false,false,false,false,false,false,false,false,false,false,false,false,false] rfl rfl (by kernel_rfl) (fun _ _ _ h => h) (Or.inl ⟨by rfl, ?_⟩) ?_ ?_
   rotate_left
   ·intro w'
    go_simp
    with_reducible rfl
   rotate_left
   ·simp only [Act.put, List.setIfInBounds_toArray, List.set_cons_zero, List.set_cons_succ, i64_w, i32_w]
    rfl
   refine pure_ (i := 2) (N := some 29) (v := ?_) (a' := ?_) #[true,true,true,false,false,false,false,false,false,false,false,false,false,false,false,false,false] rfl rfl (by kernel_rfl) (fun _ _ _ h => h) (Or.inl ⟨by rfl, ?_⟩) ?_ ?_
   rotate_left
   ·intro w'
    go_simp
    with_reducible rfl
   rotate_left
   ·simp only [Act.put, List.setIfInBounds_toArray, List.set_cons_zero, List.set_cons_succ, i64_w, i32_w]
    rfl
   refine pure_ (i := 5) (N := some 32) (v := ?_) (a' := ?_) #[true,true,true,false,false,true,false,false,false,false,false,false,false,false,false,false,false] rfl rfl (by kernel_rfl) (fun _ _ _ h => h) (Or.inl ⟨by rfl, ?_⟩) ?_ ?_
   rotate_left
   ·intro w'
    go_simp
    with_reducible rfl
   rotate_left
   ·simp only [Act.put, List.setIfInBounds_toArray, List.set_cons_zero, List.set_cons_succ, i64_w, i32_w]
    rfl
   refine pure_ (i := 6) (N := some 33) (v := ?_) (a' := ?_) #[true,true,true,false,false,true,true,false,false,false,false,false,false,false,false,false,false] rfl rfl (by kernel_rfl) (fun _ _ _ h => h) (Or.inl ⟨by rfl, ?_⟩) ?_ ?_
   rotate_left
   ·intro w'
    go_simp
    with_reducible rfl
   rotate_left
   ·simp only [Act.put, List.setIfInBounds_toArray, List.set_cons_zero, List.set_cons_succ, i64_w, i32_w]
    rfl
   refine pure_ (i := 7) (N := some 34) (v := ?_) (a' := ?_) #[true,true,true,false,false,true,true,true,false,false,false,false,false,false,false,false,false] rfl rfl (by kernel_rfl) (fun _ _ _ h => h) (Or.inl ⟨by rfl, ?_⟩) ?_ ?_
   rotate_left
   ·intro w'
    go_simp
    with_reducible rfl
   rotate_left
   ·simp only [Act.put, List.setIfInBounds_toArray, List.set_cons_zero, List.set_cons_succ, i64_w, i32_w]
    rfl
   refine pure_ (i := 9) (N := some 36) (v := ?_) (a' := ?_) #[true,true,true,false,false,true,true,true,false,true,false,false,false,false,false,false,false] rfl rfl (by kernel_rfl) (fun _ _ _ h => h) (Or.inl ⟨by rfl, ?_⟩) ?_ ?_
   rotate_left
   ·intro w'
    go_simp
    with_reducible rfl
   rotate_left
   ·simp only [Act.put, List.setIfInBounds_toArray, List.set_cons_zero, List.set_cons_succ, i64_w, i32_w]
    rfl
   refine pure_ (i := 10) (N := some 37) (v := ?_) (a' := ?_) #[true,true,true,false,false,true,true,true,false,true,true,false,false,false,false,false,false] rfl rfl (by kernel_rfl) (fun _ _ _ h => h) (Or.inl ⟨by rfl, ?_⟩) ?_ ?_
   rotate_left
   ·intro w'
    go_simp
    with_reducible rfl
   rotate_left
   ·simp only [Act.put, List.setIfInBounds_toArray, List.set_cons_zero, List.set_cons_succ, i64_w, i32_w]
    rfl
   refine pure_ (i := 11) (N := some 38) (v := ?_) (a' := ?_) #[true,true,true,false,false,true,true,true,false,true,true,true,false,false,false,false,false] rfl rfl (by kernel_rfl) (fun _ _ _ h => h) (Or.inl ⟨by rfl, ?_⟩) ?_ ?_
   rotate_left
   ·intro w'
    go_simp
    with_reducible rfl
   rotate_left
   ·simp only [Act.put, List.setIfInBounds_toArray, List.set_cons_zero, List.set_cons_succ, i64_w, i32_w]
    rfl
   refine take_ (i := 3) (N := some 30) (v := ?_) (a' := ?_) #[true,true,true,true,false,true,true,true,false,true,true,true,false,false,false,false,false] rfl rfl (by kernel_rfl) (fun _ _ _ h => h) (Or.inl ⟨by rfl, ?_⟩) hHeld ?_ ?_
   rotate_left
   ·rintro w' ⟨s0, s1, s2, s3, s4⟩
    go_simp
    with_reducible rfl
   rotate_left
   ·simp only [Act.put, List.setIfInBounds_toArray, List.set_cons_zero, List.set_cons_succ, i64_w, i32_w]
    rfl
   refine take_ (i := 4) (N := some 31) (v := ?_) (a' := ?_) #[true,true,true,true,true,true,true,true,false,true,true,true,false,false,false,false,false] rfl rfl (by kernel_rfl) (fun _ _ _ h => h) (Or.inl ⟨by rfl, ?_⟩) hHeld ?_ ?_
   rotate_left
   ·rintro w' ⟨s0, s1, s2, s3, s4⟩
    go_simp
    with_reducible rfl
   rotate_left
   ·simp only [Act.put, List.setIfInBounds_toArray, List.set_cons_zero, List.set_cons_succ, i64_w, i32_w]
    rfl
   refine take_ (i := 8) (N := some 35) (v := ?_) (a' := ?_) #[true,true,true,true,true,true,true,true,true,true,true,true,false,false,false,false,false] rfl rfl (by kernel_rfl) (fun _ _ _ h => h) (Or.inl ⟨by rfl, ?_⟩) hHeld ?_ ?_
   rotate_left
   ·rintro w' ⟨s0, s1, s2, s3, s4⟩
    go_simp
    with_reducible rfl
   rotate_left
   ·simp only [Act.put, List.setIfInBounds_toArray, List.set_cons_zero, List.set_cons_succ, i64_w, i32_w]
    rfl
   refine take_ (i := 12) (N := some 39) (v := ?_) (a' := ?_) #[true,true,true,true,true,true,true,true,true,true,true,true,true,false,false,false,false] rfl rfl (by kernel_rfl) (fun _ _ _ h => h) (Or.inl ⟨by rfl, ?_⟩) hHeld ?_ ?_
   rotate_left
   ·rintro w' ⟨s0, s1, s2, s3, s4⟩
    go_simp
    with_reducible rfl
   rotate_left
   ·simp only [Act.put, List.setIfInBounds_toArray, List.set_cons_zero, List.set_cons_succ, i64_w, i32_w]
    rfl
   refine one_ (i := 13) (N := some 40) #[true,true,true,true,true,true,true,true,true,true,true,true,true,true,false,false,false] rfl rfl (by kernel_rfl) (by decide) (fun K hK => ?_)
   refine goes_ Try.func47 (by kernel_rfl) rfl #[.slice (some ⟨vb i, 0, none⟩) m cp] (by rfl) rfl rfl (by simp only [List.map_toArray, List.map_cons, List.map_nil]; rfl) ?_
   with_reducible refine (HCL.out).mono ?_
   rintro e_ w7 ⟨v, rfl, hv, hb7⟩
   refine ⟨_, rfl, ?_⟩
   obtain ⟨g7, cap7, cur, rfl, hbg, hg7, hn7, hm7, hs7, ht7⟩ := own_form (m := m) (by have := R_own hv; rw [HMV.out] at this; exact this) hm0
   refine hK.out _ _ ⟨pw_cell_below hb7 hHeld.1, pw_cell_below hb7 hHeld.2.1, pw_cell_below hb7 hHeld.2.2.1, pw_cell_below hb7 hHeld.2.2.2.1, pw_cell_below hb7 hHeld.2.2.2.2⟩ (fun hHeld => ?_)
   clear hK K
   refine norm_ (a' := ?_) ?_ ?_
   rotate_left
   ·show Act.put _ (some 40) _ = _
    simp only [Act.put, List.setIfInBounds_toArray, List.set_cons_zero, List.set_cons_succ, i64_w, i32_w]
    rfl
   refine pure_ (i := 14) (N := some 41) (v := ?_) (a' := ?_) #[true,true,true,true,true,true,true,true,true,true,true,true,true,true,true,false,false] rfl rfl (by kernel_rfl) (fun _ _ _ h => h) (Or.inl ⟨by rfl, ?_⟩) ?_ ?_
   rotate_left
   ·intro w'
    go_simp
    with_reducible rfl
   rotate_left
   ·simp only [Act.put, List.setIfInBounds_toArray, List.set_cons_zero, List.set_cons_succ, i64_w, i32_w]
    rfl
   refine one_ (i := 15) (N := some 42) #[true,true,true,true,true,true,true,true,true,true,true,true,true,true,true,true,false] rfl rfl (by kernel_rfl) (by decide) (fun K hK => ?_)
   refine value_ (w1 := ?_) (v := ?_) (by rfl) rfl ?_ ?_
   rotate_left 2
   ·go_simp
    constructor
    ·rfl
    ·rfl
   have hb8 := below_alloc (Below.refl w7.heap.size w7) (.cells #[.int .u8 kd, .slice (some ⟨g7, 0, none⟩) m cap7] 79)
   refine hK.out _ _ ⟨pw_cell_below hb8 hHeld.1, pw_cell_below hb8 hHeld.2.1, pw_cell_below hb8 hHeld.2.2.1, pw_cell_below hb8 hHeld.2.2.2.1, pw_cell_below hb8 hHeld.2.2.2.2⟩ (fun hHeld => ?_)
   clear hK K
   refine norm_ (a' := ?_) ?_ ?_
   rotate_left
   ·show Act.put _ (some 42) _ = _
    simp only [Act.put, List.setIfInBounds_toArray, List.set_cons_zero, List.set_cons_succ, i64_w, i32_w]
    rfl
   refine last_ (i := 16) (N := none) #[true,true,true,true,true,true,true,true,true,true,true,true,true,true,true,true,true] rfl rfl (by kernel_rfl) (by decide) (fun K hK => ?_)
   have hB8 := below_then hb7 hb7.size hb8
   have hT8 := HT2y.out.below hB8
   obtain ⟨w9, hup, hmp9, hgr9⟩ := update_new (val := .pointer (some ⟨w7.heap.size, 0, none⟩)) keyed Try.underlying91 hT8.mp HLK.out HNK.out
   refine mapupd_step (.tmp 30) (.tmp 31) (.tmp 42) (by rfl) rfl rfl rfl rfl rfl hup ?_
   refine hK.out _ _ ?_
   clear hK K
   refine done_ (by kernel_rfl) ?_
   go_wp2_with fail
   
   have hcur : cur = (vs.map I ++ cur.toList.drop m).toArray := by
    apply Array.toList_inj.1
    rw [← ht7]
    simp
   rw [hcur] at hg7
   have hT9 := HT2y.out.add ⟨nm, sd, kd, vs⟩ w7.heap.size g7 (cp := cap7) (ex := cur.toList.drop m) (by show vs.length ≤ cap7; rw [HMV.out]; exact hn7) (by
     show w9.heap[w7.heap.size]? = some (.cells #[.int .u8 kd, .slice (some ⟨g7, 0, none⟩) vs.length cap7] 79 (0, 0))
     rw [HMV.out]
     exact grown_row hgr9 (heap_alloc_new w7 _) (by have := hT8.mp.lt; have := HT2y.out.mp.lt; have := hb7.size; omega)) (by
     exact grown_row hgr9 ((hb8.block _ (Array.getElem?_eq_some_iff.1 hg7).1).trans hg7) (by have := HT2y.out.mp.lt; omega)) hmp9 (grown_step hB8 hgr9) hb7.size hbg
   rw [← HPP.out] at hT9
   have hR9 := (HR6.out.below hB8).kept hgr9 (by intro z; injection z with z; have := H0.out.mp.lt; omega) (by intro z; injection z with z; omega)
   have hB9 : Below w.heap.size w w9 := fork_below (below_then HB6.out HB6.out.size hB8) hgr9 hm2'
   have hseq := hR9.seen_eq
   refine ⟨⟨seen.push i, _, _, hR9, hT9, fun k hk => ?_, hB9⟩, ?_⟩
   ·rw [HPP.out, List.length_append, List.length_singleton] at hk
    by_cases q : k = (pick cs seen).length
    ·rw [if_pos q]; exact Nat.le_trans HB6.out.size hbg
    ·rw [if_neg q]; exact HV.out k (by omega)
   ·rw [hseq, hsn, Array.size_push]
    have := HSL.out
    rw [ents_len] at this
    omega
end Go.Proofs.Ytpcjppefopjngaa.C
