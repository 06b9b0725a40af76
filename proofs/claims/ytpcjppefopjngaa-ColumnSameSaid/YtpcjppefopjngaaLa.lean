/- The walks of ColumnPlays and ColumnFits. -/
import Derived.Test.YtpcjppefopjngaaSa
set_option linter.unusedSimpArgs false
set_option linter.unusedVariables false
namespace Go.Proofs.Ytpcjppefopjngaa.C
open Go.RowKit Go.Proofs.Ytpcjppefopjngaa.Sk Go.Proofs.Ytpcjppefopjngaa.PA Go.Proofs.Ytpcjppefopjngaa.Mp Go.Proofs.YtpcjppefopjngaaW.PrintWords Go.Proofs.YtpcjppefopjngaaW.PrintLast Go.Proofs.YtpcjppefopjngaaW.PrintMore
theorem key_agg {w : World} {x : S25} {cs : List Value} (h : k25.K w x cs) : cs.toArray = #[.string x.f0, .int .u8 x.f1] := by rw [k25_open h]
set_option maxRecDepth 100000 in
set_option maxHeartbeats 4000000 in
theorem plays_w (w : World) (A : Option Addr) (c : Nat) (l : List Dd) (hc : l.length ≤ c) (hr : Kd.C kD w A l.length l) (hg : l.length ≤ maxLen ∧ ∀ x ∈ l, gd' x) (hs : l.length * 80 ≤ 140737488351232) (x : S25) (cs : List Value) (hk : k25.K w x cs) (hx : x.f0.size ≤ maxLen ∧ (Lit.int .u8 x.f1).wf = true) :
  Calls Try.prog 3 #[.slice A l.length c, .agg cs.toArray] w fun e w' => e = .returned (.bool true) ∧ Below w.heap.size w w' := by
 rw [key_agg hk]
 have hA : Below w.heap.size w (w.alloc (.cells #[.string x.f0, .int .u8 x.f1] 25)) := below_alloc (Below.refl _ w) _
 have HA := Lib.hid hA
 have HBX : Hid ((w.alloc (.cells #[.string x.f0, .int .u8 x.f1] 25)).heap[w.heap.size]? = some (.cells #[.string x.f0, .int .u8 x.f1] 25 (0, 0))) := Lib.hid (heap_alloc_new w _)
 have HP := Lib.hid (play_ok A c l (w.alloc (.cells #[.string x.f0, .int .u8 x.f1] 25)) (Kd.C_below hr hA) hg.2 (by omega))
 obtain ⟨hx1, hx2⟩ := hx
 have hx3 := u8_wf hx2
 clear hr hg hk hA hx2 hs
 go_enter Try.func3, Try.ntmps3
 go_wp2_with fail
 refine HP.out.mono ?_
 rintro e w1 ⟨g, r, rfl, ⟨own, bad, hS, hO⟩, hb⟩
 have HB1 := Lib.hid hb
 have HS := Lib.hid hS
 clear hb hS hO
 go_wp2_with fail
 refine (live_ok w1).mono ?_
 rintro e w2 ⟨rfl, hb⟩
 have HB2 := Lib.hid (below_then HB1.out HB1.out.size hb)
 have HS2 := Lib.hid (HS.out.below hb)
 have hbx := (HB2.out.block _ (by simp)).trans HBX.out
 have x0 : w2.cell? ⟨w.heap.size, 0, none⟩ = some (.string x.f0) := by rw [cell_of hbx]; rfl
 have x1 : w2.cell? ⟨w.heap.size, 1, none⟩ = some (.int .u8 x.f1) := by rw [cell_of hbx]; rfl
 clear hb hbx
 go_wp2_with fail
 refine (same_ok w2 HS2.out x.f0 x.f1 hx1 hx3).mono ?_
 rintro e w3 ⟨rfl, hb⟩
 have HB3 := Lib.hid (below_then HA.out HA.out.size (below_then HB2.out HB2.out.size hb))
 clear hb x0 x1
 go_wp2_with fail
 go_ret
 exact ⟨rfl, HB3.out⟩
theorem arr_at {w : World} {A : Option Addr} {n : Nat} {l : List Int} (h : Kd.C (Kd.int .i64) w A n l) {i : Nat} (hi : i < l.length) : ∃ ad, A = some ad ∧ w.cell? (ad.add i) = some (I l[i]) := by
 obtain ⟨ad, h1, h2⟩ := h.2.2 (by have := h.1; omega)
 obtain ⟨c, _, hK, hc0⟩ := h2 i l[i] (List.getElem?_eq_getElem hi)
 have hc : ∀ j u, c[j]? = some u → w.cell? (ad.add (i * 1 + j)) = some u := hc0
 rw [show c = [I l[i]] from hK] at hc
 have := hc 0 _ rfl
 rw [Nat.mul_one, Nat.add_zero] at this
 exact ⟨ad, h1, this⟩
/-- Columns' values fit. -/
theorem fits_at {n e : Int} {rs : List Cl} (h : Wf n e rs) {x : Cl} (hx : x ∈ rs) : list rs x.nm x.sd = x.vs ∧ kind rs x.nm x.sd = x.kd := by
 have hg : get? rs x.nm x.sd = some x := (get_iff h.nd).2 ⟨hx, rfl, rfl⟩
 rw [list_get, kind_get, hg]
 exact ⟨rfl, rfl⟩
set_option maxRecDepth 100000 in
set_option maxHeartbeats 8000000 in
theorem fits_w (w : World) (A : Option Addr) (c : Nat) (l : List Dd) (hc : l.length ≤ c) (hr : Kd.C kD w A l.length l) (hg : l.length ≤ maxLen ∧ ∀ x ∈ l, gd' x) (hs : l.length * 80 ≤ 140737488351232) :
  Calls Try.prog 5 #[.slice A l.length c] w fun e w' => e = .returned (.bool true) ∧ Below w.heap.size w w' := by
 have HP := Lib.hid (play_ok A c l w hr hg.2 (by omega))
 clear hr hg hs
 go_enter Try.func5, Try.ntmps5
 go_wp2_with fail
 refine HP.out.mono ?_
 rintro e w1 ⟨g, r, rfl, ⟨own, bad, hS, hO⟩, hb⟩
 have HB1 := Lib.hid hb
 have HS := Lib.hid hS
 clear hb hS hO
 generalize plays l = rs at HS
 go_wp2_with fail
 refine (live_ok w1).mono ?_
 rintro e w2 ⟨rfl, hb⟩
 have HB2 := Lib.hid (below_then HB1.out HB1.out.size hb)
 have HS2 := Lib.hid (HS.out.below hb)
 clear hb
 go_wp2_with fail
 refine HS2.out.tKeys.mono ?_
 rintro e w3 ⟨A6, c6, rfl, hC6, hc6, hb⟩
 have HB3 := Lib.hid (below_then HB2.out HB2.out.size hb)
 have HS3 := Lib.hid (HS2.out.below hb)
 have HC6 := Lib.hid hC6
 have HW := Lib.hid HS3.out.wf
 have h24 := HS3.out.wf.1.n24
 clear hb hC6
 obtain ⟨m, hm⟩ : ∃ m, m = rs.length := ⟨_, rfl⟩
 rw [← hm] at hc6 HC6 h24 ⊢
 have HM := Lib.hid hm
 clear hm
 go_wp2_with fail
 go_loopw [7] (fun v7 wr => ∃ i : Nat, i ≤ m ∧ v7 = I i ∧ Below w3.heap.size w3 wr) (fun v7 _ => m - (intOf v7).toNat)
 case atStart => exact ⟨0, by omega, rfl, Below.refl _ _⟩
 case round =>
  obtain ⟨i, hi, rfl, hbr⟩ := hrel
  have HBR := Lib.hid hbr
  clear hbr
  by_cases hlt : i < m
  ·have d1 : decide ((i : Int) < (m : Int)) = true := decide_eq_true (by omega)
   have hil : i < rs.length := by rw [← HM.out]; exact hlt
   have hir : i < (rs.map Cl.k25).length := by rw [List.length_map]; exact hil
   obtain ⟨ad, e, q0, q1⟩ := key_at HC6.out hir
   subst e
   obtain ⟨x, hx⟩ : ∃ x, x = rs[i] := ⟨_, rfl⟩
   have hxm : x ∈ rs := by rw [hx]; exact List.getElem_mem hil
   rw [List.getElem_map, ← hx] at q0 q1
   replace q0 : w3.cell? (ad.add (i * 2)) = some (.string x.nm) := q0
   replace q1 : w3.cell? ⟨(ad.add (i * 2)).block, (ad.add (i * 2)).off + 1, none⟩ = some (.int .u8 x.sd) := q1
   have hok := HW.out.1.ok x hxm
   have hkn : x.nm.size ≤ maxLen := by
    have q := hok.nm
    unfold nmok at q
    simp only [Bool.and_eq_true, decide_eq_true_eq] at q
    unfold maxLen; omega
   have hks : 0 ≤ x.sd ∧ x.sd ≤ 255 := by have := hok.s1; have := hok.s3; omega
   have hf := fits_at HW.out.1 hxm
   have hTL := fun (W : World) (q : Below w3.heap.size w3 W) => (HS3.out.below q).tList hkn hks
   have hTK := fun (W : World) (q : Below w3.heap.size w3 W) => (HS3.out.below q).tKind hkn hks
   have hTN := fun (W : World) (q : Below w3.heap.size w3 W) => (HS3.out.below q).tLen x.sd
   rw [hf.1] at hTL
   rw [hf.2] at hTK
   rw [← hok.ln] at hTN
   have HTL := Lib.hid hTL
   have HTK := Lib.hid hTK
   have HTN := Lib.hid hTN
   have HFT := Lib.hid hok.ft
   have hln := okc_len HW.out.2 hok
   obtain ⟨p, hp⟩ : ∃ p, p = x.vs.length := ⟨_, rfl⟩
   rw [← hp] at HTL HTN hln
   have HPV := Lib.hid hp
   replace q0 := (HBR.out.cell (World.block_lt_of_cell? w3 _ q0)).trans q0
   replace q1 := (HBR.out.cell (World.block_lt_of_cell? w3 _ q1)).trans q1
   generalize x.vs = vs at HTL HFT HPV
   generalize x.kd = kd at HTK HFT
   clear hx hxm hok hf hTL hTK hTN hil hir hp
   go_wp2_with fail
   refine (HTL.out wr HBR.out).mono ?_
   rintro e w4 ⟨A8, c8, rfl, hC8, hc8, hb⟩
   have HB4 := Lib.hid (below_then HBR.out HBR.out.size hb)
   have HC8 := Lib.hid hC8
   have j0 := pw_cell_below hb q0
   have j1 := pw_cell_below hb q1
   clear hb hC8 q0 q1
   go_wp2_with fail
   refine (HTN.out w4 HB4.out).mono ?_
   rintro e w5 ⟨rfl, rfl⟩
   go_wp2_with fail
   go_loopw [9] (fun v9 wi => ∃ j : Nat, j ≤ p ∧ v9 = I j ∧ Below w5.heap.size w5 wi) (fun v9 _ => p - (intOf v9).toNat)
   case atStart => exact ⟨0, by omega, rfl, Below.refl _ _⟩
   case round =>
    obtain ⟨j, hj, rfl, hbj⟩ := hrel
    have HBI := Lib.hid hbj
    have HBJ := Lib.hid (below_then HB4.out HB4.out.size hbj)
    have k0 := pw_cell_below hbj j0
    have k1 := pw_cell_below hbj j1
    clear hbj
    by_cases hjt : j < p
    ·have d2 : decide ((j : Int) < (p : Int)) = true := decide_eq_true (by omega)
     have hjv : j < vs.length := by rw [← HPV.out]; exact hjt
     obtain ⟨ad8, e8, q8⟩ := arr_at HC8.out hjv
     subst e8
     have hfj := fits_all'.1 HFT.out _ (List.getElem_mem hjv)
     generalize vs[j] = y at q8 hfj
     replace q8 := pw_cell_below HBI.out q8
     by_cases hkd : kd = 2
     ·subst hkd
      by_cases hy : y = 0
      ·subst hy
       go_wp2_with fail
       refine (HTK.out _ HBJ.out).mono ?_
       rintro e w6 ⟨rfl, hb⟩
       have HB6 := Lib.hid (below_then HBI.out HBI.out.size hb)
       replace q8 := pw_cell_below hb q8
       clear hb k0 k1
       go_wp2_with fail
       go_roundw
       case rel => exact ⟨j + 1, by omega, by go_num, HB6.out⟩
       case measure => simp [intOf]; omega
      ·obtain rfl : y = 1 := by omega
       go_wp2_with fail
       refine (HTK.out _ HBJ.out).mono ?_
       rintro e w6 ⟨rfl, hb⟩
       have HB6 := Lib.hid (below_then HBI.out HBI.out.size hb)
       replace q8 := pw_cell_below hb q8
       clear hb k0 k1
       go_wp2_with fail
       go_roundw
       case rel => exact ⟨j + 1, by omega, by go_num, HB6.out⟩
       case measure => simp [intOf]; omega
     ·have d3 : (kd == 2) = false := by simpa using hkd
      go_wp2_with fail
      refine (HTK.out _ HBJ.out).mono ?_
      rintro e w6 ⟨rfl, hb⟩
      have HB6 := Lib.hid (below_then HBI.out HBI.out.size hb)
      clear hb k0 k1
      go_wp2_with fail
      go_roundw
      case rel => exact ⟨j + 1, by omega, by go_num, HB6.out⟩
      case measure => simp [intOf]; omega
    ·have d2 : decide ((j : Int) < (p : Int)) = false := decide_eq_false (by omega)
     go_wp2_with fail
     go_roundw
     case rel => exact ⟨i + 1, by omega, by go_num, HBJ.out⟩
     case measure => simp [intOf]; omega
  ·have d1 : decide ((i : Int) < (m : Int)) = false := decide_eq_false (by omega)
   have d4 : decide ((m : Int) ≤ 24) = true := decide_eq_true (by omega)
   go_wp2_with fail
   go_ret
   exact ⟨rfl, below_then HB3.out HB3.out.size HBR.out⟩
end Go.Proofs.Ytpcjppefopjngaa.C
