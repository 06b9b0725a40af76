/- The walk of ClashBatches. -/
import Derived.Test.YtgdpdigpbbjhpaaBp
set_option linter.unusedSimpArgs false
set_option linter.unusedVariables false
namespace Go.Proofs.Ytgdpdigpbbjhpaa.C
open Go.RowKit Go.Sort Go.Proofs.Ytgdpdigpbbjhpaa.PA Go.Proofs.Ytgdpdigpbbjhpaa.PB Go.Proofs.YtgdpdigpbbjhpaaW.PrintWords Go.Proofs.YtgdpdigpbbjhpaaW.PrintMore Go.Proofs.YtgdpdigpbbjhpaaW.PrintLast
attribute [local go_sem high] eqA39
theorem row_at {w : World} {V : Option Addr} {rows : List (List S39)} (h : Kd.C (Kd.slice 39 k39) w V rows.length rows) {i : Nat} (hi : i < rows.length) : ∃ av Ar cr, V = some av ∧ w.cell? (av.add i) = some (.slice Ar rows[i].length cr) ∧ rows[i].length ≤ cr ∧ Kd.C k39 w Ar rows[i].length rows[i] := by
 have := at_L5 h (i : Int) (by omega) (by omega)
 rw [rdL hi] at this
 simpa using this
set_option maxRecDepth 100000 in
set_option maxHeartbeats 16000000 in
theorem batches_w (w : World) (A : Option Addr) (c : Nat) (l : List S39) (hc : l.length ≤ c) (hr : Kd.C k39 w A l.length l) (hs : ∀ a ∈ l, a.f1.size ≤ maxLen) :
  Calls Try.prog 6 #[.slice A l.length c] w fun e w' => e = .returned (.bool true) ∧ Below w.heap.size w w' := by
 have hlt := List.length_take_le 14 l
 have hlc : (l.take 14).length ≤ c := by rw [List.length_take]; omega
 have hr' := C_take 14 hr
 have hs' : ∀ a ∈ l.take 14, a.f1.size ≤ maxLen := fun a ha => hs a (List.mem_of_mem_take ha)
 have hF := fun w => few_ok A c l w hc
 obtain ⟨x, hx⟩ : ∃ x, x = l.take 14 := ⟨_, rfl⟩
 rw [← hx] at hlt hlc hr' hs' hF
 obtain ⟨rows, hrows⟩ : ∃ rows, gr [] x = rows := ⟨_, rfl⟩
 have hfl : rows.flatten = x := by rw [← hrows, gr_flat]; rfl
 have hgd : Gd rows := by rw [← hrows]; exact gr_nil x
 have hrl : rows.length ≤ 15 := by rw [← hrows]; have := gr_len x []; omega
 have HR := Lib.hid hr'
 have HS := Lib.hid hs'
 have HG := Lib.hid hrows
 have HFL := Lib.hid hfl
 have HGD := Lib.hid hgd
 clear hr hs hr' hs' hx hrows hfl hgd
 go_enter Try.func6, Try.ntmps6
 go_wp2_with fail
 with_reducible refine (hF _).mono ?_
 rintro e w1 ⟨rfl, rfl⟩
 go_wp2_with fail
 with_reducible refine (bat_ok A c x rows _ HR.out hlc (by omega) HS.out HG.out).mono ?_
 rintro e wB ⟨V, cv, rfl, hv, hV, hb⟩
 have HB := Lib.hid hb
 have HX := Lib.hid (Kd.C_below HR.out hb)
 have HV := Lib.hid hV
 clear hb hV
 go_wp2_with fail
 go_loopw [4, 5] (fun v4 v5 wr => ∃ (i n : Nat), i ≤ rows.length ∧ v5 = .int .i64 i ∧ v4 = .int .i64 n ∧ n ≤ x.length ∧ x.drop n = (rows.drop i).flatten ∧ Gd (rows.drop i) ∧ Below wB.heap.size wB wr) (fun _ v5 _ => rows.length - (intOf v5).toNat)
 case atStart => exact ⟨0, 0, Nat.zero_le _, rfl, rfl, Nat.zero_le _, by rw [List.drop_zero, List.drop_zero, HFL.out], by rw [List.drop_zero]; exact HGD.out, Below.refl _ _⟩
 case round =>
  obtain ⟨i, n, hi, rfl, rfl, hn, hd, hg, hb⟩ := hrel
  by_cases hlti : i < rows.length
  ·have di : decide (i < rows.length) = true := decide_eq_true hlti
   obtain ⟨av, Ar, cr, rfl, er, hcr, hCr⟩ := row_at HV.out hlti
   rw [List.drop_eq_getElem_cons hlti] at hd hg
   obtain ⟨r, hr⟩ : ∃ r, r = rows[i] := ⟨_, rfl⟩
   rw [← hr] at hd hg er hcr hCr
   obtain ⟨⟨hpw, h1, h6⟩, hnx, hg'⟩ := hg
   obtain ⟨ar, rfl, -⟩ := hCr.2.2 (by omega)
   rw [List.flatten_cons] at hd
   have hdl : n + r.length ≤ x.length := by have := congrArg List.length hd; simp at this; omega
   have hd2 : x.drop (n + r.length) = (rows.drop (i + 1)).flatten := by rw [← List.drop_drop, hd]; simp
   have hget : ∀ k (hk : k < r.length), x[n + k]'(by omega) = r[k] := fun k hk => by
    have h := congrArg (fun z => z[k]?) hd
    simp only [List.getElem?_drop] at h
    rw [List.getElem?_append_left hk, List.getElem?_eq_getElem hk, List.getElem?_eq_getElem (by omega)] at h
    injection h
   have hrs : ∀ a ∈ r, a.f1.size ≤ maxLen := fun a ha => by
    have : a ∈ x.drop n := by rw [hd]; exact List.mem_append_left _ ha
    exact HS.out a (List.mem_of_mem_drop this)
   have hrg : rgn [] r = (0, 0) := rgn_pair r [] ((pw_iff r).2 hpw)
   have q0 := pw_cell_below hb er
   have hCr2 := Kd.C_below hCr hb
   have HB2 := Lib.hid hb
   have HCr := Lib.hid hCr
   have HCr2 := Lib.hid hCr2
   have HER := Lib.hid er
   have HD2 := Lib.hid hd2
   have HGT := Lib.hid hget
   have HNX := Lib.hid hnx
   have HG2 := Lib.hid hg'
   have HRS := Lib.hid hrs
   have HRG := Lib.hid hrg
   have HPW := Lib.hid hpw
   have t1 : decide (r.length < 1) = false := decide_eq_false (by omega)
   have t2 : decide (6 < r.length) = false := decide_eq_false (by omega)
   have t1' : decide ((r.length : Int) < 1) = false := decide_eq_false (by omega)
   have t2' : decide (6 < (r.length : Int)) = false := decide_eq_false (by omega)
   obtain ⟨ad, rfl, -⟩ := HX.out.2.2 (by omega)
   clear hb er hCr hCr2 hd hd2 hget hnx hg' hrs hrg hpw hr
   go_wp2_with fail
   with_reducible refine (reg_ok (some ar) cr r 0 0 _ HCr2.out hcr HRS.out HRG.out).mono ?_
   rintro e w3 ⟨rfl, hb⟩
   have HB3 := Lib.hid (below_step HB2.out hb)
   have q1 := pw_cell_below HB3.out HER.out
   clear hb q0
   go_wp2_with fail
   obtain ⟨wL, rfl⟩ : ∃ wL : World, wL = w3 := ⟨_, rfl⟩
   go_loopw [4, 8] (fun v4 v8 wi => ∃ (k m : Nat), k ≤ r.length ∧ m = n + k ∧ v8 = .int .i64 k ∧ v4 = .int .i64 m ∧ Below wB.heap.size wB wi) (fun _ v8 _ => r.length - (intOf v8).toNat)
   case atStart => exact ⟨0, n, Nat.zero_le _, rfl, rfl, rfl, HB3.out⟩
   case round =>
    obtain ⟨k, m, hk, hm, rfl, rfl, hbi⟩ := hrel
    have HM := Lib.hid hm
    have fr := pw_cell_below hbi HER.out
    by_cases hlk : k < r.length
    ·have dk : decide (k < r.length) = true := decide_eq_true hlk
     have dk' : decide ((k : Int) < (r.length : Int)) = true := decide_eq_true (by omega)
     have hml : m < x.length := by omega
     have dm : decide (x.length ≤ m) = false := decide_eq_false (by omega)
     have dm' : decide ((x.length : Int) ≤ (m : Int)) = false := decide_eq_false (by omega)
     obtain ⟨ad', ea, fl0, fl1, fl2, fl3, fl4, fl5⟩ := act_at (Kd.C_below HX.out hbi) hml
     injection ea with ea
     subst ea
     obtain ⟨ar', er2, fk0, fk1, fk2, fk3, fk4, fk5⟩ := act_at (Kd.C_below HCr.out hbi) hlk
     injection er2 with er2
     subst er2
     have hy : x[m] = r[k] := by
      have := HGT.out k hlk
      subst hm
      exact this
     rw [hy] at fl0 fl1 fl2 fl3 fl4 fl5
     obtain ⟨y, hyy⟩ : ∃ y, y = r[k] := ⟨_, rfl⟩
     rw [← hyy] at fl0 fl1 fl2 fl3 fl4 fl5 fk0 fk1 fk2 fk3 fk4 fk5
     have HBI := Lib.hid hbi
     clear hm hy hyy hbi
     go_wp2_with fail
     refine start_ (n := 18) (S := fun w' => w'.cell? (av.add i) = some (.slice (some ar) r.length cr) ∧ w'.cell? (ar.add (k * 6)) = some (.int .u8 y.f0) ∧ w'.cell? ⟨(ar.add (k * 6)).block, (ar.add (k * 6)).off + 1, none⟩ = some (.string y.f1) ∧ w'.cell? ⟨(ar.add (k * 6)).block, (ar.add (k * 6)).off + 2, none⟩ = some (.int .u8 y.f2) ∧ w'.cell? ⟨(ar.add (k * 6)).block, (ar.add (k * 6)).off + 3, none⟩ = some (.bool y.f3) ∧ w'.cell? ⟨(ar.add (k * 6)).block, (ar.add (k * 6)).off + 4, none⟩ = some (.int .i64 y.f4) ∧ w'.cell? ⟨(ar.add (k * 6)).block, (ar.add (k * 6)).off + 5, none⟩ = some (.int .i64 y.f5) ∧ w'.cell? (ad.add (m * 6)) = some (.int .u8 y.f0) ∧ w'.cell? ⟨(ad.add (m * 6)).block, (ad.add (m * 6)).off + 1, none⟩ = some (.string y.f1) ∧ w'.cell? ⟨(ad.add (m * 6)).block, (ad.add (m * 6)).off + 2, none⟩ = some (.int .u8 y.f2) ∧ w'.cell? ⟨(ad.add (m * 6)).block, (ad.add (m * 6)).off + 3, none⟩ = some (.bool y.f3) ∧ w'.cell? ⟨(ad.add (m * 6)).block, (ad.add (m * 6)).off + 4, none⟩ = some (.int .i64 y.f4) ∧ w'.cell? ⟨(ad.add (m * 6)).block, (ad.add (m * 6)).off + 5, none⟩ = some (.int .i64 y.f5)) (ds := []) #[false,false,false,false,false,false,false,false,false,false,false,false,false,false,false,false,false,false] (by kernel_rfl) rfl rfl ⟨fr, fk0, fk1, fk2, fk3, fk4, fk5, fl0, fl1, fl2, fl3, fl4, fl5⟩ (fun hHeld => ?_)
     refine pure_ (i := 0) (N := some 56) (v := ?_) (a' := ?_) #[true,false,false,false,false,false,false,false,false,false,false,false,false,false,false,false,false,false] rfl rfl (by kernel_rfl) (fun _ _ _ h => h) (Or.inl ⟨by rfl, ?_⟩) ?_ ?_
     rotate_left
     ·intro w'
      go_simp
      with_reducible rfl
     rotate_left
     ·simp only [Act.put, List.setIfInBounds_toArray, List.set_cons_zero, List.set_cons_succ, i64_w, i32_w]
      rfl
     refine pure_ (i := 1) (N := some 57) (v := ?_) (a' := ?_) #[true,true,false,false,false,false,false,false,false,false,false,false,false,false,false,false,false,false] rfl rfl (by kernel_rfl) (fun _ _ _ h => h) (Or.inl ⟨by rfl, ?_⟩) ?_ ?_
     rotate_left
     ·intro w'
      go_simp
      with_reducible rfl
     rotate_left
     ·simp only [Act.put, List.setIfInBounds_toArray, List.set_cons_zero, List.set_cons_succ, i64_w, i32_w]
      rfl
     refine pure_ (i := 2) (N := some 58) (v := ?_) (a' := ?_) #[true,true,true,false,false,false,false,false,false,false,false,false,false,false,false,false,false,false] rfl rfl (by kernel_rfl) (fun _ _ _ h => h) (Or.inl ⟨by rfl, ?_⟩) ?_ ?_
     rotate_left
     ·intro w'
      go_simp
      with_reducible rfl
     rotate_left
     ·simp only [Act.put, List.setIfInBounds_toArray, List.set_cons_zero, List.set_cons_succ, i64_w, i32_w]
      rfl
     refine pure_ (i := 3) (N := some 59) (v := ?_) (a' := ?_) #[true,true,true,true,false,false,false,false,false,false,false,false,false,false,false,false,false,false] rfl rfl (by kernel_rfl) (fun _ _ _ h => h) (Or.inl ⟨by rfl, ?_⟩) ?_ ?_
     rotate_left
     ·intro w'
      go_simp
      with_reducible rfl
     rotate_left
     ·simp only [Act.put, List.setIfInBounds_toArray, List.set_cons_zero, List.set_cons_succ, i64_w, i32_w]
      rfl
     refine pure_ (i := 4) (N := some 60) (v := ?_) (a' := ?_) #[true,true,true,true,true,false,false,false,false,false,false,false,false,false,false,false,false,false] rfl rfl (by kernel_rfl) (fun _ _ _ h => h) (Or.inl ⟨by rfl, ?_⟩) ?_ ?_
     rotate_left
     ·intro w'
      go_simp
      with_reducible rfl
     rotate_left
     ·simp only [Act.put, List.setIfInBounds_toArray, List.set_cons_zero, List.set_cons_succ, i64_w, i32_w]
      rfl
     refine pure_ (i := 5) (N := some 61) (v := ?_) (a' := ?_) #[true,true,true,true,true,true,false,false,false,false,false,false,false,false,false,false,false,false] rfl rfl (by kernel_rfl) (fun _ _ _ h => h) (Or.inl ⟨by rfl, ?_⟩) ?_ ?_
     rotate_left
     ·intro w'
      go_simp
      with_reducible rfl
     rotate_left
     ·simp only [Act.put, List.setIfInBounds_toArray, List.set_cons_zero, List.set_cons_succ, i64_w, i32_w]
      rfl
     refine pure_ (i := 6) (N := some 62) (v := ?_) (a' := ?_) #[true,true,true,true,true,true,true,false,false,false,false,false,false,false,false,false,false,false] rfl rfl (by kernel_rfl) (fun _ _ _ h => h) (Or.inl ⟨by rfl, ?_⟩) ?_ ?_
     rotate_left
     ·intro w'
      go_simp
      with_reducible rfl
     rotate_left
     ·simp only [Act.put, List.setIfInBounds_toArray, List.set_cons_zero, List.set_cons_succ, i64_w, i32_w]
      rfl
     refine pure_ (i := 7) (N := some 63) (v := ?_) (a' := ?_) #[true,true,true,true,true,true,true,true,false,false,false,false,false,false,false,false,false,false] rfl rfl (by kernel_rfl) (fun _ _ _ h => h) (Or.inl ⟨by rfl, ?_⟩) ?_ ?_
     rotate_left
     ·intro w'
      go_simp
      with_reducible rfl
     rotate_left
     ·simp only [Act.put, List.setIfInBounds_toArray, List.set_cons_zero, List.set_cons_succ, i64_w, i32_w]
      rfl
     refine pure_ (i := 9) (N := some 65) (v := ?_) (a' := ?_) #[true,true,true,true,true,true,true,true,false,true,false,false,false,false,false,false,false,false] rfl rfl (by kernel_rfl) (fun _ _ _ h => h) (Or.inl ⟨by rfl, ?_⟩) ?_ ?_
     rotate_left
     ·intro w'
      go_simp
      with_reducible rfl
     rotate_left
     ·simp only [Act.put, List.setIfInBounds_toArray, List.set_cons_zero, List.set_cons_succ, i64_w, i32_w]
      rfl
     refine pure_ (i := 12) (N := some 68) (v := ?_) (a' := ?_) #[true,true,true,true,true,true,true,true,false,true,false,false,true,false,false,false,false,false] rfl rfl (by kernel_rfl) (fun _ _ _ h => h) (Or.inl ⟨by rfl, ?_⟩) ?_ ?_
     rotate_left
     ·intro w'
      go_simp
      with_reducible rfl
     rotate_left
     ·simp only [Act.put, List.setIfInBounds_toArray, List.set_cons_zero, List.set_cons_succ, i64_w, i32_w]
      rfl
     refine pure_ (i := 13) (N := some 69) (v := ?_) (a' := ?_) #[true,true,true,true,true,true,true,true,false,true,false,false,true,true,false,false,false,false] rfl rfl (by kernel_rfl) (fun _ _ _ h => h) (Or.inl ⟨by rfl, ?_⟩) ?_ ?_
     rotate_left
     ·intro w'
      go_simp
      with_reducible rfl
     rotate_left
     ·simp only [Act.put, List.setIfInBounds_toArray, List.set_cons_zero, List.set_cons_succ, i64_w, i32_w]
      rfl
     refine pure_ (i := 14) (N := some 70) (v := ?_) (a' := ?_) #[true,true,true,true,true,true,true,true,false,true,false,false,true,true,true,false,false,false] rfl rfl (by kernel_rfl) (fun _ _ _ h => h) (Or.inl ⟨by rfl, ?_⟩) ?_ ?_
     rotate_left
     ·intro w'
      go_simp
      with_reducible rfl
     rotate_left
     ·simp only [Act.put, List.setIfInBounds_toArray, List.set_cons_zero, List.set_cons_succ, i64_w, i32_w]
      rfl
     refine take_ (i := 8) (N := some 64) (v := ?_) (a' := ?_) #[true,true,true,true,true,true,true,true,true,true,false,false,true,true,true,false,false,false] rfl rfl (by kernel_rfl) (fun _ _ _ h => h) (Or.inl ⟨by rfl, ?_⟩) hHeld ?_ ?_
     rotate_left
     ·rintro w' ⟨s0, s1, s2, s3, s4, s5, s6, s7, s8, s9, s10, s11, s12⟩
      go_simp
      with_reducible rfl
     rotate_left
     ·simp only [Act.put, List.setIfInBounds_toArray, List.set_cons_zero, List.set_cons_succ, i64_w, i32_w]
      rfl
     refine pure_ (i := 10) (N := some 66) (v := ?_) (a' := ?_) #[true,true,true,true,true,true,true,true,true,true,true,false,true,true,true,false,false,false] rfl rfl (by kernel_rfl) (fun _ _ _ h => h) (Or.inl ⟨by rfl, ?_⟩) ?_ ?_
     rotate_left
     ·intro w'
      go_simp
      with_reducible rfl
     rotate_left
     ·simp only [Act.put, List.setIfInBounds_toArray, List.set_cons_zero, List.set_cons_succ, i64_w, i32_w]
      rfl
     refine take_ (i := 11) (N := some 67) (v := ?_) (a' := ?_) #[true,true,true,true,true,true,true,true,true,true,true,true,true,true,true,false,false,false] rfl rfl (by kernel_rfl) (fun _ _ _ h => h) (Or.inl ⟨by rfl, ?_⟩) hHeld ?_ ?_
     rotate_left
     ·rintro w' ⟨s0, s1, s2, s3, s4, s5, s6, s7, s8, s9, s10, s11, s12⟩
      go_simp
      with_reducible rfl
     rotate_left
     ·simp only [Act.put, List.setIfInBounds_toArray, List.set_cons_zero, List.set_cons_succ, i64_w, i32_w]
      rfl
     refine take_ (i := 15) (N := some 71) (v := ?_) (a' := ?_) #[true,true,true,true,true,true,true,true,true,true,true,true,true,true,true,true,false,false] rfl rfl (by kernel_rfl) (fun _ _ _ h => h) (Or.inl ⟨by rfl, ?_⟩) hHeld ?_ ?_
     rotate_left
     ·rintro w' ⟨s0, s1, s2, s3, s4, s5, s6, s7, s8, s9, s10, s11, s12⟩
      go_simp
      with_reducible rfl
     rotate_left
     ·simp only [Act.put, List.setIfInBounds_toArray, List.set_cons_zero, List.set_cons_succ, i64_w, i32_w]
      rfl
     refine pure_ (i := 16) (N := some 72) (v := ?_) (a' := ?_) #[true,true,true,true,true,true,true,true,true,true,true,true,true,true,true,true,true,false] rfl rfl (by kernel_rfl) (fun _ _ _ h => h) (Or.inl ⟨by rfl, ?_⟩) ?_ ?_
     rotate_left
     ·intro w'
      go_simp
      with_reducible rfl
     rotate_left
     ·simp only [Act.put, List.setIfInBounds_toArray, List.set_cons_zero, List.set_cons_succ, i64_w, i32_w]
      rfl
     refine pure_ (i := 17) (N := some 73) (v := ?_) (a' := ?_) #[true,true,true,true,true,true,true,true,true,true,true,true,true,true,true,true,true,true] rfl rfl (by kernel_rfl) (fun _ _ _ h => h) (Or.inl ⟨by rfl, ?_⟩) ?_ ?_
     rotate_left
     ·intro w'
      go_simp
      with_reducible rfl
     rotate_left
     ·simp only [Act.put, List.setIfInBounds_toArray, List.set_cons_zero, List.set_cons_succ, i64_w, i32_w]
      rfl
     refine done_ (by kernel_rfl) ?_
     go_wp2_with fail
     exact ⟨⟨k + 1, m + 1, by omega, by have := HM.out; omega, by go_num, by go_num, below_drew1 HBI.out⟩, by simp [intOf]; omega⟩
    ·have dk : decide (k < r.length) = false := decide_eq_false hlk
     have dk' : decide ((k : Int) < (r.length : Int)) = false := decide_eq_false (by omega)
     have hmm : m = n + r.length := by omega
     have HMM := Lib.hid hmm
     have HBI := Lib.hid hbi
     have hd2 := HD2.out
     rw [← hmm] at hd2
     have HD3 := Lib.hid hd2
     clear hm hbi hmm hd2
     by_cases hmx : m < x.length
     ·have dm : decide (m < x.length) = true := decide_eq_true hmx
      have dm' : decide ((m : Int) < (x.length : Int)) = true := decide_eq_true (by omega)
      by_cases hr6 : r.length < 6
      ·have d6 : decide (r.length < 6) = true := decide_eq_true hr6
       have d6' : decide ((r.length : Int) < 6) = true := decide_eq_true (by omega)
       obtain ⟨ad', ea, fl0, fl1, fl2, fl3, fl4, fl5⟩ := act_at (Kd.C_below HX.out HBI.out) hmx
       injection ea with ea
       subst ea
       obtain ⟨y, hyy⟩ : ∃ y, y = x[m] := ⟨_, rfl⟩
       rw [← hyy] at fl0 fl1 fl2 fl3 fl4 fl5
       have hno : ¬ Pw (r ++ [y]) := by
        have h3 := HD3.out
        rw [List.drop_eq_getElem_cons hmx, ← hyy] at h3
        have hg2 := HG2.out
        have hnx2 := HNX.out
        generalize rows.drop (i + 1) = t at h3 hg2 hnx2
        cases t with
        | nil => simp at h3
        | cons s t =>
         obtain ⟨⟨_, hs1, _⟩, _, _⟩ := hg2
         cases s with
         | nil => simp at hs1
         | cons b s =>
          rw [List.flatten_cons, List.cons_append] at h3
          injection h3 with h3 _
          rw [h3]
          exact hnx2 hr6 b s rfl
       obtain ⟨s1, hry⟩ : ∃ s1, rgn [] (r ++ [y]) = (s1, 10) := ⟨(rgn [] (r ++ [y])).1, by
        rcases rgn_two (r ++ [y]) [] with h | h
        ·exact absurd ((pw_iff _).1 h) hno
        ·exact Prod.ext rfl h⟩
       have hys : ∀ a ∈ r ++ [y], a.f1.size ≤ maxLen := fun a ha => by
        rcases List.mem_append.1 ha with ha | ha
        ·exact HRS.out a ha
        ·rw [List.mem_singleton.1 ha, hyy]; exact HS.out _ (List.getElem_mem hmx)
       have HRY := Lib.hid hry
       have HYS := Lib.hid hys
       have hrr := Kd.C_below HCr.out HBI.out
       clear hno hry hys hyy
       go_wp2_with fail
       obtain ⟨wz, hwz⟩ : ∃ wz : World, wz = wr := ⟨_, rfl⟩
       subst hwz
       have HRr := Lib.hid hrr
       clear hrr
       refine start_ (n := 18) (S := fun w' => w'.cell? (av.add i) = some (.slice (some ar) r.length cr) ∧ w'.cell? (ad.add (m * 6)) = some (.int .u8 y.f0) ∧ w'.cell? ⟨(ad.add (m * 6)).block, (ad.add (m * 6)).off + 1, none⟩ = some (.string y.f1) ∧ w'.cell? ⟨(ad.add (m * 6)).block, (ad.add (m * 6)).off + 2, none⟩ = some (.int .u8 y.f2) ∧ w'.cell? ⟨(ad.add (m * 6)).block, (ad.add (m * 6)).off + 3, none⟩ = some (.bool y.f3) ∧ w'.cell? ⟨(ad.add (m * 6)).block, (ad.add (m * 6)).off + 4, none⟩ = some (.int .i64 y.f4) ∧ w'.cell? ⟨(ad.add (m * 6)).block, (ad.add (m * 6)).off + 5, none⟩ = some (.int .i64 y.f5)) (ds := []) #[false,false,false,false,false,false,false,false,false,false,false,false,false,false,false,false,false,false] (by kernel_rfl) rfl rfl ⟨fr, fl0, fl1, fl2, fl3, fl4, fl5⟩ (fun hHeld => ?_)
       refine pure_ (i := 1) (N := some 90) (v := ?_) (a' := ?_) #[false,true,false,false,false,false,false,false,false,false,false,false,false,false,false,false,false,false] rfl rfl (by kernel_rfl) (fun _ _ _ h => h) (Or.inl ⟨by rfl, ?_⟩) ?_ ?_
       rotate_left
       ·intro w'
        go_simp
        with_reducible rfl
       rotate_left
       ·simp only [Act.put, List.setIfInBounds_toArray, List.set_cons_zero, List.set_cons_succ, i64_w, i32_w]
        rfl
       refine pure_ (i := 2) (N := some 91) (v := ?_) (a' := ?_) #[false,true,true,false,false,false,false,false,false,false,false,false,false,false,false,false,false,false] rfl rfl (by kernel_rfl) (fun _ _ _ h => h) (Or.inl ⟨by rfl, ?_⟩) ?_ ?_
       rotate_left
       ·intro w'
        go_simp
        with_reducible rfl
       rotate_left
       ·simp only [Act.put, List.setIfInBounds_toArray, List.set_cons_zero, List.set_cons_succ, i64_w, i32_w]
        rfl
       refine pure_ (i := 3) (N := some 92) (v := ?_) (a' := ?_) #[false,true,true,true,false,false,false,false,false,false,false,false,false,false,false,false,false,false] rfl rfl (by kernel_rfl) (fun _ _ _ h => h) (Or.inl ⟨by rfl, ?_⟩) ?_ ?_
       rotate_left
       ·intro w'
        go_simp
        with_reducible rfl
       rotate_left
       ·simp only [Act.put, List.setIfInBounds_toArray, List.set_cons_zero, List.set_cons_succ, i64_w, i32_w]
        rfl
       refine pure_ (i := 6) (N := some 95) (v := ?_) (a' := ?_) #[false,true,true,true,false,false,true,false,false,false,false,false,false,false,false,false,false,false] rfl rfl (by kernel_rfl) (fun _ _ _ h => h) (Or.inl ⟨by rfl, ?_⟩) ?_ ?_
       rotate_left
       ·intro w'
        go_simp
        with_reducible rfl
       rotate_left
       ·simp only [Act.put, List.setIfInBounds_toArray, List.set_cons_zero, List.set_cons_succ, i64_w, i32_w]
        rfl
       refine pure_ (i := 7) (N := some 96) (v := ?_) (a' := ?_) #[false,true,true,true,false,false,true,true,false,false,false,false,false,false,false,false,false,false] rfl rfl (by kernel_rfl) (fun _ _ _ h => h) (Or.inl ⟨by rfl, ?_⟩) ?_ ?_
       rotate_left
       ·intro w'
        go_simp
        with_reducible rfl
       rotate_left
       ·simp only [Act.put, List.setIfInBounds_toArray, List.set_cons_zero, List.set_cons_succ, i64_w, i32_w]
        rfl
       refine pure_ (i := 8) (N := some 97) (v := ?_) (a' := ?_) #[false,true,true,true,false,false,true,true,true,false,false,false,false,false,false,false,false,false] rfl rfl (by kernel_rfl) (fun _ _ _ h => h) (Or.inl ⟨by rfl, ?_⟩) ?_ ?_
       rotate_left
       ·intro w'
        go_simp
        with_reducible rfl
       rotate_left
       ·simp only [Act.put, List.setIfInBounds_toArray, List.set_cons_zero, List.set_cons_succ, i64_w, i32_w]
        rfl
       refine take_ (i := 4) (N := some 93) (v := ?_) (a' := ?_) #[false,true,true,true,true,false,true,true,true,false,false,false,false,false,false,false,false,false] rfl rfl (by kernel_rfl) (fun _ _ _ h => h) (Or.inl ⟨by rfl, ?_⟩) hHeld ?_ ?_
       rotate_left
       ·rintro w' ⟨s0, s1, s2, s3, s4, s5, s6⟩
        go_simp
        with_reducible rfl
       rotate_left
       ·simp only [Act.put, List.setIfInBounds_toArray, List.set_cons_zero, List.set_cons_succ, i64_w, i32_w]
        rfl
       refine take_ (i := 9) (N := some 98) (v := ?_) (a' := ?_) #[false,true,true,true,true,false,true,true,true,true,false,false,false,false,false,false,false,false] rfl rfl (by kernel_rfl) (fun _ _ _ h => h) (Or.inl ⟨by rfl, ?_⟩) hHeld ?_ ?_
       rotate_left
       ·rintro w' ⟨s0, s1, s2, s3, s4, s5, s6⟩
        go_simp
        with_reducible rfl
       rotate_left
       ·simp only [Act.put, List.setIfInBounds_toArray, List.set_cons_zero, List.set_cons_succ, i64_w, i32_w]
        rfl
       refine join_ (σ := Nat × Value × Nat) 7 #[true,true,true,true,true,true,true,true,true,true,true,false,false,false,false,false,false,false] (fun s => [(89, .slice (some ⟨s.1, 0, none⟩) 0 0), (94, s.2.1), (99, .slice (some ⟨s.2.2, 0, none⟩) 1 1)]) (fun s w' => FF wz w' r #[.int .u8 y.f0, .string y.f1, .int .u8 y.f2, .bool y.f3, .int .i64 y.f4, .int .i64 y.f5] s.2.1 s.2.2) ?_ ?_
       rotate_left
       ·intro hCont
        refine two_ (i := 0) (j := 10) (Ni := some 89) (Nj := some 99) #[true,true,true,true,true,false,true,true,true,true,false,false,false,false,false,false,false,false] #[false,true,true,true,true,false,true,true,true,true,true,false,false,false,false,false,false,false] rfl rfl rfl rfl (by kernel_rfl) (by decide) (by decide) (fun K hK => ?_) (fun K hK => ?_)
        ·skip
         refine box0_step (by rfl) rfl rfl rfl ?_
         intro B1 u1 hb1 hl1 hR1 hS1
         have hZ1 : Below wz.heap.size wz u1 := below_step (below_drew1 (Below.refl wz.heap.size wz)) hS1
         refine hK.out _ _ ⟨pw_cell_below hZ1 fr, pw_cell_below hZ1 fl0, pw_cell_below hZ1 fl1, pw_cell_below hZ1 fl2, pw_cell_below hZ1 fl3, pw_cell_below hZ1 fl4, pw_cell_below hZ1 fl5⟩ (fun hHeld => ?_)
         clear hK K
         refine norm_ (a' := ?_) ?_ ?_
         rotate_left
         ·show Act.put _ (some 89) _ = _
          simp only [Act.put, List.setIfInBounds_toArray, List.set_cons_zero, List.set_cons_succ, i64_w, i32_w]
          rfl
         refine two_ (i := 5) (j := 10) (Ni := some 94) (Nj := some 99) #[true,true,true,true,true,true,true,true,true,true,false,false,false,false,false,false,false,false] #[true,true,true,true,true,false,true,true,true,true,true,false,false,false,false,false,false,false] rfl rfl rfl rfl (by kernel_rfl) (by decide) (by decide) (fun K hK => ?_) (fun K hK => ?_)
         ·skip
          have hRz : Kd.R k39 39 u1 wz.heap.size (fun _ => True) (.slice (some ⟨B1, 0, none⟩) 0 0) [] := Kd.R_lower hR1 (below_drew1 (Below.refl wz.heap.size wz)).size
          refine Kd.R_append_rows_step k39 (Rr := Kd.K k39 u1) (w0 := wz) wz.heap.size (by rfl) (.tmp 89) (.tmp 93) 22 39 (.agg #[(.int .u8 0), (.string ⟨#[]⟩), (.int .u8 0), (.bool false), (.int .i64 0), (.int .i64 0)]) 48 rfl Try.underlying22 info39 rfl (by decide) (by decide) (.slice (some ⟨B1, 0, none⟩) 0 0) [] r (some ar) r.length cr (fun _ => True) (fun _ => False) rfl rfl hRz (Kd.C_below HRr.out hZ1) ?aK (fun _ h => h.elim) (fun _ _ => trivial) hZ1 hZ1.size ?aL ?_
          (case aK => (intro z cs h; rw [k39_open h]; exact k39_mkM _ _ _ _))
          (case aL => (simp; omega))
          intro v2 u2 hV2 hZ2 hG2 _
          rw [List.nil_append] at hV2
          have hS2 : u1.grownBy u2 (some B1) := hG2
          refine hK.out _ _ ⟨pw_cell_below hZ2 fr, pw_cell_below hZ2 fl0, pw_cell_below hZ2 fl1, pw_cell_below hZ2 fl2, pw_cell_below hZ2 fl3, pw_cell_below hZ2 fl4, pw_cell_below hZ2 fl5⟩ (fun hHeld => ?_)
          clear hK K
          refine norm_ (a' := ?_) ?_ ?_
          rotate_left
          ·show Act.put _ (some 94) _ = _
           simp only [Act.put, List.setIfInBounds_toArray, List.set_cons_zero, List.set_cons_succ, i64_w, i32_w]
           rfl
          refine one_ (i := 10) (N := some 99) #[true,true,true,true,true,true,true,true,true,true,true,false,false,false,false,false,false,false] rfl rfl (by kernel_rfl) (by decide) (fun K hK => ?_)
          refine box1_step y 98 (by rfl) rfl rfl rfl rfl ?_
          intro B3 u3 hb3 hl3 hX3 hS3
          have hZ3 : Below wz.heap.size wz u3 := below_step hZ2 hS3
          refine hK.out _ _ ⟨pw_cell_below hZ3 fr, pw_cell_below hZ3 fl0, pw_cell_below hZ3 fl1, pw_cell_below hZ3 fl2, pw_cell_below hZ3 fl3, pw_cell_below hZ3 fl4, pw_cell_below hZ3 fl5⟩ (fun hHeld => ?_)
          clear hK K
          refine norm_ (a' := ?_) ?_ ?_
          rotate_left
          ·show Act.put _ (some 99) _ = _
           simp only [Act.put, List.setIfInBounds_toArray, List.set_cons_zero, List.set_cons_succ, i64_w, i32_w]
           rfl
          exact norm_ (by simp only [putAll, Act.put, List.setIfInBounds_toArray, List.set_cons_zero, List.set_cons_succ]) (hCont (B1, v2, B3) _ ⟨hZ3, (Kd.R_below hV2 hS3), hX3⟩)
         ·skip
          refine box1_step y 98 (by rfl) rfl rfl rfl rfl ?_
          intro B2 u2 hb2 hl2 hX2 hS2
          have hZ2 : Below wz.heap.size wz u2 := below_step hZ1 hS2
          refine hK.out _ _ ⟨pw_cell_below hZ2 fr, pw_cell_below hZ2 fl0, pw_cell_below hZ2 fl1, pw_cell_below hZ2 fl2, pw_cell_below hZ2 fl3, pw_cell_below hZ2 fl4, pw_cell_below hZ2 fl5⟩ (fun hHeld => ?_)
          clear hK K
          refine norm_ (a' := ?_) ?_ ?_
          rotate_left
          ·show Act.put _ (some 99) _ = _
           simp only [Act.put, List.setIfInBounds_toArray, List.set_cons_zero, List.set_cons_succ, i64_w, i32_w]
           rfl
          refine one_ (i := 5) (N := some 94) #[true,true,true,true,true,true,true,true,true,true,true,false,false,false,false,false,false,false] rfl rfl (by kernel_rfl) (by decide) (fun K hK => ?_)
          have hRz : Kd.R k39 39 u2 wz.heap.size (fun _ => True) (.slice (some ⟨B1, 0, none⟩) 0 0) [] := Kd.R_lower (Kd.R_below hR1 hS2) (below_drew1 (Below.refl wz.heap.size wz)).size
          refine Kd.R_append_rows_step k39 (Rr := Kd.K k39 u2) (w0 := wz) wz.heap.size (by rfl) (.tmp 89) (.tmp 93) 22 39 (.agg #[(.int .u8 0), (.string ⟨#[]⟩), (.int .u8 0), (.bool false), (.int .i64 0), (.int .i64 0)]) 48 rfl Try.underlying22 info39 rfl (by decide) (by decide) (.slice (some ⟨B1, 0, none⟩) 0 0) [] r (some ar) r.length cr (fun _ => True) (fun _ => False) rfl rfl hRz (Kd.C_below HRr.out hZ2) ?aK (fun _ h => h.elim) (fun _ _ => trivial) hZ2 hZ2.size ?aL ?_
          (case aK => (intro z cs h; rw [k39_open h]; exact k39_mkM _ _ _ _))
          (case aL => (simp; omega))
          intro v3 u3 hV3 hZ3 hG3 _
          rw [List.nil_append] at hV3
          have hS3 : u2.grownBy u3 (some B1) := hG3
          refine hK.out _ _ ⟨pw_cell_below hZ3 fr, pw_cell_below hZ3 fl0, pw_cell_below hZ3 fl1, pw_cell_below hZ3 fl2, pw_cell_below hZ3 fl3, pw_cell_below hZ3 fl4, pw_cell_below hZ3 fl5⟩ (fun hHeld => ?_)
          clear hK K
          refine norm_ (a' := ?_) ?_ ?_
          rotate_left
          ·show Act.put _ (some 94) _ = _
           simp only [Act.put, List.setIfInBounds_toArray, List.set_cons_zero, List.set_cons_succ, i64_w, i32_w]
           rfl
          exact norm_ (by simp only [putAll, Act.put, List.setIfInBounds_toArray, List.set_cons_zero, List.set_cons_succ]) (hCont (B1, v3, B2) _ ⟨hZ3, hV3, ((hS3.block _ hl2 (by intro e; injection e with e; have := hl1; omega)).trans hX2)⟩)
        ·skip
         refine box1_step y 98 (by rfl) rfl rfl rfl rfl ?_
         intro B1 u1 hb1 hl1 hX1 hS1
         have hZ1 : Below wz.heap.size wz u1 := below_step (below_drew1 (Below.refl wz.heap.size wz)) hS1
         refine hK.out _ _ ⟨pw_cell_below hZ1 fr, pw_cell_below hZ1 fl0, pw_cell_below hZ1 fl1, pw_cell_below hZ1 fl2, pw_cell_below hZ1 fl3, pw_cell_below hZ1 fl4, pw_cell_below hZ1 fl5⟩ (fun hHeld => ?_)
         clear hK K
         refine norm_ (a' := ?_) ?_ ?_
         rotate_left
         ·show Act.put _ (some 99) _ = _
          simp only [Act.put, List.setIfInBounds_toArray, List.set_cons_zero, List.set_cons_succ, i64_w, i32_w]
          rfl
         refine one_ (i := 0) (N := some 89) #[true,true,true,true,true,false,true,true,true,true,true,false,false,false,false,false,false,false] rfl rfl (by kernel_rfl) (by decide) (fun K hK => ?_)
         refine box0_step (by rfl) rfl rfl rfl ?_
         intro B2 u2 hb2 hl2 hR2 hS2
         have hZ2 : Below wz.heap.size wz u2 := below_step hZ1 hS2
         refine hK.out _ _ ⟨pw_cell_below hZ2 fr, pw_cell_below hZ2 fl0, pw_cell_below hZ2 fl1, pw_cell_below hZ2 fl2, pw_cell_below hZ2 fl3, pw_cell_below hZ2 fl4, pw_cell_below hZ2 fl5⟩ (fun hHeld => ?_)
         clear hK K
         refine norm_ (a' := ?_) ?_ ?_
         rotate_left
         ·show Act.put _ (some 89) _ = _
          simp only [Act.put, List.setIfInBounds_toArray, List.set_cons_zero, List.set_cons_succ, i64_w, i32_w]
          rfl
         refine one_ (i := 5) (N := some 94) #[true,true,true,true,true,true,true,true,true,true,true,false,false,false,false,false,false,false] rfl rfl (by kernel_rfl) (by decide) (fun K hK => ?_)
         have hRz : Kd.R k39 39 u2 wz.heap.size (fun _ => True) (.slice (some ⟨B2, 0, none⟩) 0 0) [] := Kd.R_lower hR2 hZ1.size
         refine Kd.R_append_rows_step k39 (Rr := Kd.K k39 u2) (w0 := wz) wz.heap.size (by rfl) (.tmp 89) (.tmp 93) 22 39 (.agg #[(.int .u8 0), (.string ⟨#[]⟩), (.int .u8 0), (.bool false), (.int .i64 0), (.int .i64 0)]) 48 rfl Try.underlying22 info39 rfl (by decide) (by decide) (.slice (some ⟨B2, 0, none⟩) 0 0) [] r (some ar) r.length cr (fun _ => True) (fun _ => False) rfl rfl hRz (Kd.C_below HRr.out hZ2) ?aK (fun _ h => h.elim) (fun _ _ => trivial) hZ2 hZ2.size ?aL ?_
         (case aK => (intro z cs h; rw [k39_open h]; exact k39_mkM _ _ _ _))
         (case aL => (simp; omega))
         intro v3 u3 hV3 hZ3 hG3 _
         rw [List.nil_append] at hV3
         have hS3 : u2.grownBy u3 (some B2) := hG3
         refine hK.out _ _ ⟨pw_cell_below hZ3 fr, pw_cell_below hZ3 fl0, pw_cell_below hZ3 fl1, pw_cell_below hZ3 fl2, pw_cell_below hZ3 fl3, pw_cell_below hZ3 fl4, pw_cell_below hZ3 fl5⟩ (fun hHeld => ?_)
         clear hK K
         refine norm_ (a' := ?_) ?_ ?_
         rotate_left
         ·show Act.put _ (some 94) _ = _
          simp only [Act.put, List.setIfInBounds_toArray, List.set_cons_zero, List.set_cons_succ, i64_w, i32_w]
          rfl
         exact norm_ (by simp only [putAll, Act.put, List.setIfInBounds_toArray, List.set_cons_zero, List.set_cons_succ]) (hCont (B2, v3, B1) _ ⟨hZ3, hV3, ((hS3.block _ (Nat.lt_of_lt_of_le hl1 hS2.size) (by intro e; injection e with e; omega)).trans ((hS2.block _ hl1).trans hX1))⟩)
       rintro ⟨B0, v, Bx⟩ u hF
       have hHeld : True := trivial
       refine norm_ (a' := ?_) ?_ ?_
       rotate_left
       ·simp only [putAll, Act.put, List.setIfInBounds_toArray, List.set_cons_zero, List.set_cons_succ]
        rfl
       refine one_ (i := 11) (N := some 100) #[true,true,true,true,true,true,true,true,true,true,true,true,false,false,false,false,false,false] rfl rfl (by kernel_rfl) (by decide) (fun K hK => ?_)
       refine Kd.R_append_rows_step k39 (Rr := Kd.K k39 u) (w0 := wz) wz.heap.size (by rfl) (.tmp 94) (.tmp 99) 22 39 (.agg #[(.int .u8 0), (.string ⟨#[]⟩), (.int .u8 0), (.bool false), (.int .i64 0), (.int .i64 0)]) 48 rfl Try.underlying22 info39 rfl (by decide) (by decide) v r [y] (some ⟨Bx, 0, none⟩) 1 1 (fun _ => True) (fun k => some k ≠ v.ownBlock) rfl rfl hF.own (box_reads hF.box) ?aK (fun _ h => ⟨trivial, h⟩) (fun _ _ => trivial) hF.bl hF.bl.size ?aL ?_
       (case aK => (intro z cs h; rw [k39_open h]; exact k39_mkM _ _ _ _))
       (case aL => omega)
       intro v9 u9 hV9 hZ9 _ _
       obtain ⟨A9, c9, rfl, hc9, hC9⟩ := Kd.R_reads hV9
       refine hK.out _ _ ⟨pw_cell_below hZ9 fr, pw_cell_below hZ9 fl0, pw_cell_below hZ9 fl1, pw_cell_below hZ9 fl2, pw_cell_below hZ9 fl3, pw_cell_below hZ9 fl4, pw_cell_below hZ9 fl5⟩ (fun hHeld => ?_)
       clear hK K
       refine norm_ (a' := ?_) ?_ ?_
       rotate_left
       ·show Act.put _ (some 100) _ = _
        simp only [Act.put, List.setIfInBounds_toArray, List.set_cons_zero, List.set_cons_succ, i64_w, i32_w]
        rfl
       refine one_ (i := 12) (N := some 101) #[true,true,true,true,true,true,true,true,true,true,true,true,true,false,false,false,false,false] rfl rfl (by kernel_rfl) (by decide) (fun K hK => ?_)
       refine goes_ Try.func8 (by kernel_rfl) rfl #[.slice A9 (r ++ [y]).length c9] (by rfl) rfl rfl (by simp only [List.map_toArray, List.map_cons, List.map_nil]; rfl) ?_
       with_reducible refine (reg_ok A9 c9 (r ++ [y]) s1 10 _ hC9 hc9 HYS.out HRY.out).mono ?_
       rintro e w9 ⟨rfl, hb⟩
       refine ⟨_, rfl, ?_⟩
       have hZ10 : Below wz.heap.size wz w9 := below_step hZ9 hb
       refine hK.out _ _ ⟨pw_cell_below hZ10 fr, pw_cell_below hZ10 fl0, pw_cell_below hZ10 fl1, pw_cell_below hZ10 fl2, pw_cell_below hZ10 fl3, pw_cell_below hZ10 fl4, pw_cell_below hZ10 fl5⟩ (fun hHeld => ?_)
       clear hK K
       refine norm_ (a' := ?_) ?_ ?_
       rotate_left
       ·show Act.put _ (some 101) _ = _
        simp only [Act.put, List.setIfInBounds_toArray, List.set_cons_zero, List.set_cons_succ, i64_w, i32_w]
        rfl
       refine pure_ (i := 13) (N := some 88) (v := ?_) (a' := ?_) #[true,true,true,true,true,true,true,true,true,true,true,true,true,true,false,false,false,false] rfl rfl (by kernel_rfl) (fun _ _ _ h => h) (Or.inl ⟨by rfl, ?_⟩) ?_ ?_
       rotate_left
       ·intro w'
        go_simp
        with_reducible rfl
       rotate_left
       ·simp only [Act.put, List.setIfInBounds_toArray, List.set_cons_zero, List.set_cons_succ, i64_w, i32_w]
        rfl
       refine pure_ (i := 14) (N := some 102) (v := ?_) (a' := ?_) #[true,true,true,true,true,true,true,true,true,true,true,true,true,true,true,false,false,false] rfl rfl (by kernel_rfl) (fun _ _ _ h => h) (Or.inl ⟨by rfl, ?_⟩) ?_ ?_
       rotate_left
       ·intro w'
        go_simp
        with_reducible rfl
       rotate_left
       ·simp only [Act.put, List.setIfInBounds_toArray, List.set_cons_zero, List.set_cons_succ, i64_w, i32_w]
        rfl
       refine pure_ (i := 15) (N := some 103) (v := ?_) (a' := ?_) #[true,true,true,true,true,true,true,true,true,true,true,true,true,true,true,true,false,false] rfl rfl (by kernel_rfl) (fun _ _ _ h => h) (Or.inl ⟨by rfl, ?_⟩) ?_ ?_
       rotate_left
       ·intro w'
        go_simp
        with_reducible rfl
       rotate_left
       ·simp only [Act.put, List.setIfInBounds_toArray, List.set_cons_zero, List.set_cons_succ, i64_w, i32_w]
        rfl
       refine pure_ (i := 16) (N := some 9) (v := ?_) (a' := ?_) #[true,true,true,true,true,true,true,true,true,true,true,true,true,true,true,true,true,false] rfl rfl (by kernel_rfl) (fun _ _ _ h => h) (Or.inl ⟨by rfl, ?_⟩) ?_ ?_
       rotate_left
       ·intro w'
        go_simp
        with_reducible rfl
       rotate_left
       ·simp only [Act.put, List.setIfInBounds_toArray, List.set_cons_zero, List.set_cons_succ, i64_w, i32_w]
        rfl
       refine pure_ (i := 17) (N := some 10) (v := ?_) (a' := ?_) #[true,true,true,true,true,true,true,true,true,true,true,true,true,true,true,true,true,true] rfl rfl (by kernel_rfl) (fun _ _ _ h => h) (Or.inl ⟨by rfl, ?_⟩) ?_ ?_
       rotate_left
       ·intro w'
        go_simp
        with_reducible rfl
       rotate_left
       ·simp only [Act.put, List.setIfInBounds_toArray, List.set_cons_zero, List.set_cons_succ, i64_w, i32_w]
        rfl
       refine done_ (by kernel_rfl) ?_
       have HZ := Lib.hid hZ10
       clear hZ10 hZ9 hV9 hC9 hb hF
       go_wp2_with fail
       exact ⟨⟨i + 1, m, by omega, by go_num, rfl, by omega, HD3.out, HG2.out, below_step HBI.out HZ.out⟩, by simp [intOf]; omega⟩
      ·have d6 : decide (r.length < 6) = false := decide_eq_false hr6
       have d6' : decide ((r.length : Int) < 6) = false := decide_eq_false (by omega)
       go_wp2_with fail
       exact ⟨⟨i + 1, m, by omega, by go_num, rfl, by omega, HD3.out, HG2.out, HBI.out⟩, by simp [intOf]; omega⟩
     ·have dm : decide (m < x.length) = false := decide_eq_false hmx
      have dm' : decide ((m : Int) < (x.length : Int)) = false := decide_eq_false (by omega)
      go_wp2_with fail
      exact ⟨⟨i + 1, m, by omega, by go_num, rfl, by have := HMM.out; omega, HD3.out, HG2.out, HBI.out⟩, by simp [intOf]; omega⟩
  ·have di : decide (i < rows.length) = false := decide_eq_false hlti
   have hnl : n = x.length := by
    obtain rfl : i = rows.length := by omega
    rw [List.drop_length] at hd
    have := congrArg List.length hd
    simp at this
    omega
   have t9 : ((n : Int) == (x.length : Int)) = true := by simp [hnl]
   have HBE := Lib.hid (below_step HB.out hb)
   clear hnl hd hg hb
   go_wp2_with fail
   with_reducible refine (live_ok _).mono ?_
   rintro e w5 ⟨rfl, hb⟩
   have HB5 := Lib.hid (below_step HBE.out hb)
   clear hb
   go_wp2
   go_ret
   exact ⟨rfl, HB5.out⟩
theorem batches_row (w : World) (A : Option Addr) (c : Nat) (l : List S39) (hc : l.length ≤ c) (hr : Kd.C k39 w A l.length l) (hg : l.length ≤ maxLen ∧ ∀ x ∈ l, ga x) (_ : l.length * 48 ≤ 140737488351232) :
  Calls Try.prog 6 #[.slice A l.length c] w fun e w' => e = .returned (.bool true) ∧ Below w.heap.size w w' :=
 batches_w w A c l hc hr (fun a ha => (hg.2 a ha).2.1)
end Go.Proofs.Ytgdpdigpbbjhpaa.C
