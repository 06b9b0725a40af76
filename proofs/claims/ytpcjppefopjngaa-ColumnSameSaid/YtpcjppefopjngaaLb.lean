/- The walk of ColumnLast. -/
import Derived.Test.YtpcjppefopjngaaLa
import Derived.Test.YtpcjppefopjngaaOpns
set_option linter.unusedSimpArgs false
set_option linter.unusedVariables false
namespace Go.Proofs.Ytpcjppefopjngaa.C
open Go.RowKit Go.Proofs.Ytpcjppefopjngaa.Sk Go.Proofs.Ytpcjppefopjngaa.PA Go.Proofs.Ytpcjppefopjngaa.Mp Go.Proofs.Ytpcjppefopjngaa.Open Go.Proofs.YtpcjppefopjngaaW.PrintWords Go.Proofs.YtpcjppefopjngaaW.PrintLast Go.Proofs.YtpcjppefopjngaaW.PrintMore
theorem opn_two : Opn Try.prog (Kd.pair (Kd.int .i64) (Kd.int .i64)) (fun x => (Lit.int .i64 x.1).wf = true ∧ (Lit.int .i64 x.2).wf = true) 34 :=
 opn_array Try.underlying34 (by kernel_rfl) (opnF_cons (opn_int Try.underlying33 (by kernel_rfl)) (opnF_one (opn_int Try.underlying33 (by kernel_rfl))))
theorem two_agg {w : World} {x : Int × Int} {cs : List Value} (h : (Kd.pair (Kd.int .i64) (Kd.int .i64)).K w x cs) : cs.toArray = #[I x.1, I x.2] := by
 obtain ⟨c0, c1, rfl, h0, h1⟩ := h
 rw [show c0 = [I x.1] from h0, show c1 = [I x.2] from h1]
 rfl
theorem find_upd {cs : List Cl} {nm : ByteArray} {sd : Int} {j : Nat} (h : find cs nm sd = some j) (vs : List Int) : find (upd cs j vs) nm sd = some j := by
 have hj := find_lt h
 obtain ⟨_, h1, h2⟩ := find_some h
 have h3 : ∀ i (hi : i < j), ¬ ((cs[i]'(by omega)).nm = nm ∧ (cs[i]'(by omega)).sd = sd) := by
  intro i hi
  unfold find at h
  obtain ⟨_, _, q⟩ := List.findIdx?_eq_some_iff_getElem.1 h
  simpa using q i hi
 refine find_here (i := j) (by rw [upd_len]; exact hj) ?_ fun i hi => ?_
 ·rw [upd_at hj hj, if_pos rfl]; exact ⟨h1, h2⟩
 ·rw [upd_at hj (by omega), if_neg (by omega)]; exact h3 i hi
theorem set_back {n e : Int} {rs cs : List Cl} (hw : Wf n e rs) (hp : cs.Perm rs) {nm : ByteArray} {sd i x : Int} (h : (setv cs nm sd i x).1 = 0) :
  getv (setv cs nm sd i x).2 nm sd i = (x, 0) ∧ setv (setv cs nm sd i x).2 nm sd i (getv cs nm sd i).1 = (0, cs) := by
 unfold setv at h ⊢
 cases hf : find cs nm sd with
 | none => rw [hf] at h; cases h
 | some j =>
  rw [hf] at h
  have hj := find_lt hf
  have hgd : cs.getD j z0 = cs[j] := by simp [List.getD, hj]
  simp only [hgd] at h ⊢
  have hok := hw.ok _ (hp.mem_iff.1 (List.getElem_mem hj))
  by_cases h1 : i < 0 ∨ ((cs[j].vs).length : Int) ≤ i
  ·rw [if_pos h1] at h; cases h
  ·rw [if_neg h1] at h ⊢
   by_cases h2 : fits cs[j].kd [x] = true
   ·rw [if_pos h2] at h ⊢
    have hf2 := find_upd hf (cs[j].vs.set i.toNat x)
    have hgd2 : (upd cs j (cs[j].vs.set i.toNat x)).getD j z0 = { cs[j] with vs := cs[j].vs.set i.toNat x } := by
     have hj2 : j < (upd cs j (cs[j].vs.set i.toNat x)).length := by rw [upd_len]; exact hj
     rw [show (upd cs j (cs[j].vs.set i.toNat x)).getD j z0 = (upd cs j (cs[j].vs.set i.toNat x))[j] by simp [List.getD, hj2], upd_at hj hj, if_pos rfl]
    have hil : i.toNat < cs[j].vs.length := by omega
    constructor
    ·unfold getv
     simp only [hf2, hgd2]
     rw [if_neg (by simpa using h1)]
     simp [List.getD, hil]
    ·simp only [hf2, hgd2]
     unfold getv
     simp only [hf, hgd]
     rw [if_neg h1]
     rw [if_neg (by simpa using h1)]
     have hold : cs[j].vs.getD i.toNat 0 = cs[j].vs[i.toNat] := by simp [List.getD, hil]
     rw [hold, if_pos (fits_all'.2 fun y hy => by rw [List.mem_singleton.1 hy]; exact fits_all'.1 hok.ft _ (List.getElem_mem hil))]
     refine Prod.ext rfl ?_
     refine List.ext_getElem (by simp [upd_len]) fun k hk hk' => ?_
     have hk0 : k < cs.length := hk'
     rw [upd_at (by rw [upd_len]; exact hj) (by rw [upd_len]; exact hk0)]
     by_cases q : k = j
     ·subst q
      rw [if_pos rfl, upd_at hj hj, if_pos rfl]
      simp
     ·rw [if_neg q, upd_at hj hk0, if_neg q]
   ·rw [if_neg h2] at h; cases h
theorem setv_no {cs : List Cl} {nm : ByteArray} {sd i x : Int} (h : (setv cs nm sd i x).1 ≠ 0) : (setv cs nm sd i x).2 = cs := by
 unfold setv at h ⊢
 cases hf : find cs nm sd with
 | none => rfl
 | some j =>
  rw [hf] at h
  simp only at h ⊢
  split
  ·rfl
  ·rename_i q
   rw [if_neg q] at h
   split
   ·rename_i q2
    rw [if_pos q2] at h
    exact absurd rfl h
   ·rfl
theorem setv_len (cs : List Cl) (nm : ByteArray) (sd i x : Int) : (setv cs nm sd i x).2.length = cs.length := by
 unfold setv
 cases hf : find cs nm sd with
 | none => rfl
 | some j =>
  simp only
  split
  ·rfl
  ·split
   ·exact upd_len _ _ _
   ·rfl
theorem setv_lens {cs : List Cl} {nm : ByteArray} {sd i x : Int} (h : ∀ c ∈ cs, c.vs.length ≤ 1000) : ∀ c ∈ (setv cs nm sd i x).2, c.vs.length ≤ 1000 := by
 unfold setv
 cases hf : find cs nm sd with
 | none => exact h
 | some j =>
  have hj := find_lt hf
  have hgd : cs.getD j z0 = cs[j] := by simp [List.getD, hj]
  simp only [hgd]
  split
  ·exact h
  ·split
   ·intro c hc
    obtain ⟨k, hk, rfl⟩ := List.getElem_of_mem hc
    have hk0 : k < cs.length := by rw [upd_len] at hk; exact hk
    rw [upd_at hj hk0]
    split
    ·show (cs[j].vs.set i.toNat x).length ≤ 1000
     rw [List.length_set]
     exact h _ (List.getElem_mem hj)
    ·exact h _ (List.getElem_mem hk0)
   ·exact h
/-- The program's deed leaves the document's columns. -/
theorem IsR.fr {W W' : World} {g mb r c : Nat} {n e : Int} {cs : List Cl} {cb vb : Nat → Nat} {ps : List Rw} {A : Option Addr} {bad : Nat → Prop} (h : IsR W r n e ps A c bad) (ht : IsT W g mb n e cs cb vb) (hf : Fr W W' mb cs vb) (ho : ∀ b, Own mb r cs vb b → bad b) : IsR W' r n e ps A c bad ∧ Keep (Own mb r cs vb) W W' := by
 obtain ⟨row, hg, hr⟩ := hf
 have hk : Keep (Own mb r cs vb) W W' := Keep.of_grown hg (fun k e => by
  rcases hr k e with h | h
  ·exact .inl h
  ·exact .inr (.inl h))
 refine ⟨h.mono hk.size (hg.block r h.rlt (fun e => ?_)) (fun b hb hn => hk.block b hb (fun q => hn (ho b q))) (fun b _ hq => hq) h.me (fun b hb => Nat.lt_of_lt_of_le (h.lt b hb) hk.size), hk⟩
 rcases hr r e.symm with rfl | ⟨i, hi, rfl⟩
 ·exact ht.mp.ne h.tb rfl
 ·exact blk_ne (ht.vx i hi) h.tb (by decide) rfl
theorem own_len {mb r : Nat} {cs cs' : List Cl} {vb : Nat → Nat} (h : cs'.length = cs.length) : Own mb r cs' vb = Own mb r cs vb := by unfold Own; rw [h]
set_option maxRecDepth 100000 in
set_option maxHeartbeats 8000000 in
theorem last_w (w : World) (A : Option Addr) (c : Nat) (l : List Dd) (hc : l.length ≤ c) (hr : Kd.C kD w A l.length l) (hg : l.length ≤ maxLen ∧ ∀ x ∈ l, gd' x) (hs : l.length * 80 ≤ 140737488351232) (x : S25) (cs : List Value) (hk : k25.K w x cs) (hx : x.f0.size ≤ maxLen ∧ (Lit.int .u8 x.f1).wf = true)
  (y : Int × Int) (cs2 : List Value) (hk2 : (Kd.pair (Kd.int .i64) (Kd.int .i64)).K w y cs2) (hy : (Lit.int .i64 y.1).wf = true ∧ (Lit.int .i64 y.2).wf = true) :
  Calls Try.prog 4 #[.slice A l.length c, .agg cs.toArray, .agg cs2.toArray] w fun e w' => e = .returned (.bool true) ∧ Below w.heap.size w w' := by
 rw [key_agg hk, two_agg hk2]
 obtain ⟨y0, y1⟩ := y
 obtain ⟨nm, sd⟩ := x
 obtain ⟨hx1, hx2⟩ := hx
 have hx3 := u8_wf hx2
 obtain ⟨W0, hW0⟩ : ∃ W0, W0 = (w.alloc (.cells #[.string nm, .int .u8 sd] 25)).alloc (.cells #[I y0, I y1] 34) := ⟨_, rfl⟩
 have hA : Below w.heap.size w W0 := by rw [hW0]; exact below_alloc (below_alloc (Below.refl _ w) _) _
 have HA := Lib.hid hA
 have HBX : Hid (W0.heap[w.heap.size]? = some (.cells #[.string nm, .int .u8 sd] 25 (0, 0))) := Lib.hid (by
  rw [hW0]; exact ((below_alloc (Below.refl _ _) _).block _ (by simp)).trans (heap_alloc_new w _))
 have HBY : Hid (W0.heap[w.heap.size + 1]? = some (.cells #[I y0, I y1] 34 (0, 0))) := Lib.hid (by
  have := heap_alloc_new (w.alloc (.cells #[.string nm, .int .u8 sd] 25)) (.cells #[I y0, I y1] 34)
  rw [hW0]; simpa using this)
 have HP := Lib.hid (play_ok A c l W0 (Kd.C_below hr hA) hg.2 (by omega))
 have HW0 := Lib.hid hW0
 clear hr hg hk hk2 hA hx2 hs hy hW0
 go_enter Try.func4, Try.ntmps4
 go_wp2_with fail
 rw [← HW0.out]
 refine HP.out.mono ?_
 rintro e w1 ⟨g, r, rfl, ⟨own, bad, hS, hO⟩, hb⟩
 have HB1 := Lib.hid hb
 have HS := Lib.hid hS
 have HO := Lib.hid hO
 clear hb hS hO
 generalize plays l = rs at HS
 go_wp2_with fail
 refine (live_ok w1).mono ?_
 rintro e w2 ⟨rfl, hb⟩
 have HB2 := Lib.hid (below_then HB1.out HB1.out.size hb)
 have HS2 := Lib.hid (HS.out.below hb)
 clear hb
 obtain ⟨mb, cl, cb, vb, ps, AR, cR, hP, h1, h2⟩ := HS2.out
 subst h1; subst h2
 have HPT := Lib.hid hP
 clear hP
 have hw0 : w.heap.size + 1 < W0.heap.size := (Array.getElem?_eq_some_iff.1 HBY.out).1
 have hbx := (HB2.out.block _ (by omega)).trans HBX.out
 have hby := (HB2.out.block _ hw0).trans HBY.out
 have x0 : w2.cell? ⟨w.heap.size, 0, none⟩ = some (.string nm) := by rw [cell_of hbx]; rfl
 have x1 : w2.cell? ⟨w.heap.size, 1, none⟩ = some (.int .u8 sd) := by rw [cell_of hbx]; rfl
 have x2 : w2.cell? ⟨w.heap.size + 1, 0, none⟩ = some (I y0) := by rw [cell_of hby]; rfl
 have x3 : w2.cell? ⟨w.heap.size + 1, 1, none⟩ = some (I y1) := by rw [cell_of hby]; rfl
 clear hbx hby
 go_wp2_with fail
 generalize Go.bits .and .i64 y0 3 = i
 refine (set_ok g mb 3 2 cl cb vb nm sd i y1 w2 HPT.out.t hx1 hx3 HPT.out.lens.1).mono ?_
 rintro e w3 ⟨rfl, hT, hF⟩
 obtain ⟨hR, hK⟩ := HPT.out.d.fr HPT.out.t hF HPT.out.ob
 have HB3 := Lib.hid (hK.below HB2.out HB2.out.size HO.out)
 have HT3 := Lib.hid hT
 have HR3 := Lib.hid hR
 have hbx := (HB3.out.block _ (by omega)).trans HBX.out
 have hby := (HB3.out.block _ hw0).trans HBY.out
 have z0' : w3.cell? ⟨w.heap.size, 0, none⟩ = some (.string nm) := by rw [cell_of hbx]; rfl
 have z1' : w3.cell? ⟨w.heap.size, 1, none⟩ = some (.int .u8 sd) := by rw [cell_of hbx]; rfl
 clear hT hF hR hK x0 x1 x2 x3 hbx hby
 by_cases hcode : (setv cl nm sd i y1).1 = 0
 ·obtain ⟨hg1, hg2⟩ := set_back HPT.out.wf HPT.out.pm hcode
  have hcl1 := setv_len cl nm sd i y1
  have hll1 := setv_lens (nm := nm) (sd := sd) (i := i) (x := y1) HPT.out.lens.1
  have HG2 := Lib.hid hg2
  have HG1 := Lib.hid hg1
  have HL1 := Lib.hid hcl1
  have HLL := Lib.hid hll1
  rw [hcode]
  generalize (setv cl nm sd i y1).2 = cl1 at HT3 HG2 HG1 HL1 HLL
  clear hcode hg1 hg2 hcl1 hll1
  go_wp2_with fail
  have hgv := get_val g mb 3 2 cl1 cb vb nm sd i w3 HT3.out hx1 hx3
  rw [HG1.out] at hgv
  refine hgv.mono ?_
  clear hgv
  rintro e w4 ⟨rfl, hb⟩
  have HB4 := Lib.hid (below_then HB3.out HB3.out.size hb)
  have HT4 := Lib.hid (HT3.out.below hb)
  have HR4 := Lib.hid (HR3.out.below hb)
  have y0' := pw_cell_below hb z0'
  have y1' := pw_cell_below hb z1'
  clear hb z0' z1'
  go_wp2_with fail
  refine (rget_ok r 3 2 ps AR cR bad nm sd i w4 HR4.out (by have := HPT.out.few.2; omega) HPT.out.lens.2.1).mono ?_
  rw [getv_get, ← get_perm HPT.out.wf HPT.out.pm, ← getv_get]
  rintro e w5 ⟨rfl, hb⟩
  have HB5 := Lib.hid (below_then HB4.out HB4.out.size hb)
  have HT5 := Lib.hid (HT4.out.below hb)
  have HR5 := Lib.hid (HR4.out.below hb)
  have hbx := (HB5.out.block _ (by omega)).trans HBX.out
  have hby := (HB5.out.block _ hw0).trans HBY.out
  have x0 : w5.cell? ⟨w.heap.size, 0, none⟩ = some (.string nm) := by rw [cell_of hbx]; rfl
  have x1 : w5.cell? ⟨w.heap.size, 1, none⟩ = some (.int .u8 sd) := by rw [cell_of hbx]; rfl
  have x3 : w5.cell? ⟨w.heap.size + 1, 1, none⟩ = some (I y1) := by rw [cell_of hby]; rfl
  clear hb y0' y1' hbx hby
  generalize (getv cl nm sd i).1 = was at HG2
  generalize (getv cl nm sd i).2 = was2
  go_wp2_with fail
  have hst := set_ok g mb 3 2 cl1 cb vb nm sd i was w5 HT5.out hx1 hx3 HLL.out
  rw [HG2.out] at hst
  refine hst.mono ?_
  clear hst
  rintro e w6 ⟨rfl, hT, hF⟩
  have hOe : Own mb r cl1 vb = Own mb r cl vb := own_len HL1.out
  obtain ⟨hR, hK⟩ := HR5.out.fr HT5.out hF (by rw [hOe]; exact HPT.out.ob)
  have HB6 := Lib.hid (hK.below HB5.out HB5.out.size (by rw [hOe]; exact HO.out))
  have HS6 : Hid (Sys w6 (Own mb r cl vb) bad 3 2 g r (cls ps)) := Lib.hid ⟨mb, cl, cb, vb, ps, AR, cR, ⟨hT, hR, HPT.out.pm, HPT.out.wf, HPT.out.nn, HPT.out.ob⟩, rfl, rfl⟩
  have hbx := (HB6.out.block _ (by omega)).trans HBX.out
  have q0 : w6.cell? ⟨w.heap.size, 0, none⟩ = some (.string nm) := by rw [cell_of hbx]; rfl
  have q1 : w6.cell? ⟨w.heap.size, 1, none⟩ = some (.int .u8 sd) := by rw [cell_of hbx]; rfl
  clear hT hF hR hK x0 x1 x3 hbx hOe
  go_wp2_with fail
  refine (same_ok w6 HS6.out nm sd hx1 hx3).mono ?_
  rintro e w7 ⟨rfl, hb⟩
  have HB7 := Lib.hid (below_then HA.out HA.out.size (below_then HB6.out HB6.out.size hb))
  clear hb q0 q1
  go_wp2_with fail
  go_ret
  exact ⟨rfl, HB7.out⟩
 ·have hno := setv_no hcode
  rw [hno] at HT3
  have HS3 : Hid (Sys w3 (Own mb r cl vb) bad 3 2 g r (cls ps)) := Lib.hid ⟨mb, cl, cb, vb, ps, AR, cR, ⟨HT3.out, HR3.out, HPT.out.pm, HPT.out.wf, HPT.out.nn, HPT.out.ob⟩, rfl, rfl⟩
  clear hno
  have hne : ((setv cl nm sd i y1).1 != 0) = true := by simpa using hcode
  generalize (setv cl nm sd i y1).1 = code at hne
  clear hcode
  go_wp2_with fail
  refine (same_ok w3 HS3.out nm sd hx1 hx3).mono ?_
  rintro e w7 ⟨rfl, hb⟩
  have HB7 := Lib.hid (below_then HA.out HA.out.size (below_then HB3.out HB3.out.size hb))
  clear hb z0' z1'
  go_wp2_with fail
  go_ret
  exact ⟨rfl, HB7.out⟩
end Go.Proofs.Ytpcjppefopjngaa.C
