/- The walk of TopPosted. -/
import Derived.Test.YthmenclkgngkkaaPo
set_option linter.unusedSimpArgs false
set_option linter.unusedVariables false
set_option linter.unusedSimpArgs false
set_option linter.unusedVariables false
namespace Go.Proofs.Ythmenclkgngkkaa.M
open Go.RowKit Go.Proofs.Ythmenclkgngkkaa.PA Go.Proofs.YthmenclkgngkkaaW.PrintWords Go.Proofs.YthmenclkgngkkaaW.PrintMore Go.Proofs.YthmenclkgngkkaaW.PrintLast
theorem and7 (y : Int) : 0 ≤ Go.bits .and .i64 y 7 ∧ Go.bits .and .i64 y 7 ≤ 7 := by
 have h : ((BitVec.ofInt 64 y) &&& (BitVec.ofInt 64 7)).toNat ≤ 7 := by
  rw [BitVec.toNat_and]
  exact Nat.le_trans Nat.and_le_right (by decide)
 unfold Go.bits
 show 0 ≤ IntKind.i64.wrap (((BitVec.ofInt 64 y) &&& (BitVec.ofInt 64 7)).toNat : Int) ∧ IntKind.i64.wrap (((BitVec.ofInt 64 y) &&& (BitVec.ofInt 64 7)).toNat : Int) ≤ 7
 generalize ((BitVec.ofInt 64 y) &&& (BitVec.ofInt 64 7)).toNat = m at h
 have e : IntKind.i64.wrap (m : Int) = m := by
  have : m = 0 ∨ m = 1 ∨ m = 2 ∨ m = 3 ∨ m = 4 ∨ m = 5 ∨ m = 6 ∨ m = 7 := by omega
  rcases this with rfl | rfl | rfl | rfl | rfl | rfl | rfl | rfl <;> decide +kernel
 rw [e]; omega
theorem and3' (y : Int) : 0 ≤ Go.bits .and .i64 y 3 ∧ Go.bits .and .i64 y 3 ≤ 3 := by
 have h : ((BitVec.ofInt 64 y) &&& (BitVec.ofInt 64 3)).toNat ≤ 3 := by
  rw [BitVec.toNat_and]
  exact Nat.le_trans Nat.and_le_right (by decide)
 unfold Go.bits
 show 0 ≤ IntKind.i64.wrap (((BitVec.ofInt 64 y) &&& (BitVec.ofInt 64 3)).toNat : Int) ∧ IntKind.i64.wrap (((BitVec.ofInt 64 y) &&& (BitVec.ofInt 64 3)).toNat : Int) ≤ 3
 generalize ((BitVec.ofInt 64 y) &&& (BitVec.ofInt 64 3)).toNat = m at h
 have e : IntKind.i64.wrap (m : Int) = m := by
  have : m = 0 ∨ m = 1 ∨ m = 2 ∨ m = 3 := by omega
  rcases this with rfl | rfl | rfl | rfl <;> decide +kernel
 rw [e]; omega
def fdt (m : S26) : S26 := ⟨Go.bits .and .i64 m.f0 7, Go.bits .and .i64 m.f1 3, m.f2⟩
theorem R_c {w : World} {b : Nat} {ok : Nat → Prop} {v : Value} {r : List S26} (h : Kd.R k26 26 w b ok v r) : ∃ V cv, v = .slice V r.length cv ∧ Kd.C k26 w V r.length r ∧ r.length ≤ cv := by
 obtain ⟨V, cv, rfl⟩ := Kd.R_slice h
 obtain ⟨h1, h2, h3⟩ := Kd.R_reads' h
 exact ⟨V, cv, rfl, h3, h2⟩
theorem turned_c (A : Option Addr) (c : Nat) (l : List S26) (k : Int) (w : World) (hC : Kd.C k26 w A l.length l) (hlc : l.length ≤ c) (hl : l.length ≤ 900) (h0 : 0 ≤ k) (hk : k ≤ 18446744073709551615) :
  Calls Try.prog 10 #[.slice A l.length c, .int .u64 k] w fun e w' => ∃ V cv, e = .returned (.slice V (turnl l k.toNat).length cv) ∧ Kd.C k26 w' V (turnl l k.toNat).length (turnl l k.toNat) ∧ (turnl l k.toNat).length ≤ cv ∧ Below w.heap.size w w' := by
 obtain ⟨n, rfl⟩ := Int.eq_ofNat_of_zero_le h0
 refine (turnedAll_ok A c l n w hC hlc hl hk).mono ?_
 rintro e w' ⟨v, rfl, hv, hb⟩
 obtain ⟨V, cv, rfl, h1, h2⟩ := R_c hv
 exact ⟨V, cv, rfl, h1, h2, hb⟩
theorem sorted_c (A : Option Addr) (c : Nat) (l : List S26) (w : World) (hC : Kd.C k26 w A l.length l) (hl : l.length ≤ 900) :
  Calls Try.prog 13 #[.slice A l.length c] w fun e w' => ∃ V cv, e = .returned (.slice V l.length cv) ∧ Kd.C k26 w' V l.length (l.mergeSort le) ∧ l.length ≤ cv ∧ Below w.heap.size w w' := by
 refine (sorted_ok A c l w hC (by omega)).mono ?_
 rintro e w' ⟨v, rfl, hv, hb⟩
 obtain ⟨V, cv, rfl, h1, h2⟩ := R_c hv
 rw [List.length_mergeSort] at h1 h2
 exact ⟨V, cv, by rw [List.length_mergeSort], h1, h2, hb⟩
theorem for_c (A : Option Addr) (c : Nat) (l : List S26) (nd : Int) (w : World) (hC : Kd.C k26 w A l.length l) (hlc : l.length ≤ c) (hl : l.length ≤ 900) :
  Calls Try.prog 14 #[.slice A l.length c, .int .i64 nd] w fun e w' => ∃ V cv, e = .returned (.slice V (l.filter (kp nd)).length cv) ∧ Below w.heap.size w w' := by
 refine (mail_For.calls A c l nd (l.filter (kp nd)) w hC hlc (by unfold mail_For.f; rw [if_pos (by omega)])).mono ?_
 rintro e w' ⟨v, rfl, hv, hb⟩
 obtain ⟨V, cv, rfl, h1, h2⟩ := R_c hv
 exact ⟨V, cv, rfl, hb⟩
set_option maxRecDepth 100000 in
set_option maxHeartbeats 8000000 in
theorem posted_w (w : World) (A : Option Addr) (c : Nat) (l : List S26) (hc : l.length ≤ c) (hr : Kd.C k26 w A l.length l) (hg : l.length ≤ maxLen ∧ ∀ x ∈ l, (Lit.int .i64 x.f0).wf = true ∧ (Lit.int .i64 x.f1).wf = true ∧ (Lit.int .i64 x.f2).wf = true) (hs : l.length * 24 ≤ 140737488351232) (v : Int) (wf : (Lit.int .u64 v).wf = true) :
  Calls Try.prog 3 #[.slice A l.length c, .int .u64 v] w fun e w' => e = .returned (.bool true) ∧ Below w.heap.size w w' := by
 have hv : 0 ≤ v ∧ v ≤ 18446744073709551615 := by simpa [Lit.wf, IntKind.min, IntKind.max, IntKind.signed, IntKind.bits] using wf
 have HV := Lib.hid hv
 have HR := Lib.hid hr
 have hlm : l.length ≤ 9223372036854775807 := by omega
 have HG : Hid (∀ x ∈ l, -9223372036854775808 ≤ x.f2 ∧ x.f2 ≤ 9223372036854775807) := Lib.hid fun x hx => by simpa [Lit.wf, IntKind.min, IntKind.max, IntKind.signed, IntKind.bits] using (hg.2 x hx).2.2
 clear hr hg hs wf hv
 go_enter Try.func3, Try.ntmps3
 go_wp2_with fail
 go_loopw [5, 6, 7] (fun v5 v6 _ wr => ∃ i : Nat, i ≤ 30 ∧ i ≤ l.length ∧ v6 = .int .i64 i ∧ Kd.R k26 26 wr w.heap.size (fun _ => True) v5 ((l.take i).map fdt) ∧ Below w.heap.size w wr) (fun _ v6 _ _ => l.length - (intOf v6).toNat)
 case atStart => exact ⟨0, by omega, by omega, rfl, Kd.R_nil _ _ _ _ _, Below.refl _ _⟩
 case round =>
  obtain ⟨i, hi, hil, rfl, hO, hb⟩ := hrel
  have HO := Lib.hid hO
  have HB := Lib.hid hb
  clear hO hb
  by_cases hlt : i < l.length ∧ i < 30
  ·have d1 : decide ((i : Int) < (l.length : Int)) = true := decide_eq_true (by omega)
   have d2 : decide ((i : Int) < 30) = true := decide_eq_true (by omega)
   have hlt1 := hlt.1
   obtain ⟨ad, e, q0, q1, q2⟩ := msg_at HR.out hlt1
   subst e
   replace q0 := (HB.out.cell (World.block_lt_of_cell? w _ q0)).trans q0
   replace q1 := (HB.out.cell (World.block_lt_of_cell? w _ q1)).trans q1
   replace q2 := (HB.out.cell (World.block_lt_of_cell? w _ q2)).trans q2
   have htk : (l.take (i + 1)).map fdt = (l.take i).map fdt ++ [fdt l[i]] := by rw [List.take_succ_eq_append_getElem hlt1, List.map_append]; rfl
   have HTK := Lib.hid htk
   clear htk
   generalize l[i] = x at q0 q1 q2 HTK
   obtain ⟨acc, hacc⟩ : ∃ acc, acc = (l.take i).map fdt := ⟨_, rfl⟩
   rw [← hacc] at HO HTK
   have hal : acc.length = i := by rw [hacc]; simp; omega
   obtain ⟨A5, c5, rfl⟩ := Kd.R_slice HO.out
   have hb2 : Below w.heap.size w (wr.alloc (.cells #[.int .i64 (Go.bits .and .i64 x.f0 7), .int .i64 (Go.bits .and .i64 x.f1 3), .int .i64 x.f2] 26)) := below_alloc HB.out _
   have hO2 := Kd.R_below HO.out (below_alloc (Below.refl _ wr) (.cells #[.int .i64 (Go.bits .and .i64 x.f0 7), .int .i64 (Go.bits .and .i64 x.f1 3), .int .i64 x.f2] 26))
   have HAL := Lib.hid hal
   have HB2 := Lib.hid hb2
   have HO2 := Lib.hid hO2
   clear hacc hal hb2 hO2
   go_wp2_with (at_builtin; refine Kd.R_append k26 (W := wr.alloc (.cells #[.int .i64 (Go.bits .and .i64 x.f0 7), .int .i64 (Go.bits .and .i64 x.f1 3), .int .i64 x.f2] 26)) (w0 := w) w.heap.size rfl (.tmp 39) (.tmp 41) 22 26 _ 24 rfl Try.underlying22 info26 rfl (by decide) (by decide) (.slice A5 acc.length c5) acc (fdt x) [.int .i64 (Go.bits .and .i64 x.f0 7), .int .i64 (Go.bits .and .i64 x.f1 3), .int .i64 x.f2] (fun _ => True) (fun _ => False) rfl ?aX ?aP (fun _ h => h.elim) (fun _ _ => trivial) HO2.out HB2.out HB2.out.size ?aL ?_; (case aX => (rw [World.size_alloc]; rfl)); (case aP => exact k26_mkM _ _ _ (fdt x)); (case aL => (have := HAL.out; omega)); intro v9 w9 hV9 hB9 _ _; rw [← HTK.out] at hV9; have HV9 := Lib.hid hV9; have HB9 := Lib.hid hB9; clear hV9 hB9)
   refine ⟨⟨i + 1, by omega, by omega, by go_num, HV9.out, HB9.out⟩, by simp [intOf]; omega⟩
  ·by_cases hl1 : i < l.length
   ·have d1 : decide ((i : Int) < (l.length : Int)) = true := decide_eq_true (by omega)
    have d2 : decide ((i : Int) < 30) = false := decide_eq_false (by omega)
    have hn30 : ((l.take i).map fdt).length ≤ 30 := by simp; omega
    have hwi : ∀ m ∈ (l.take i).map fdt, wi m := fun m hm => by
     obtain ⟨y, _, rfl⟩ := List.mem_map.1 hm
     have h1 := and7 y.f0
     have h2 := and3' y.f1
     exact ⟨h1.1, by show Go.bits .and .i64 y.f0 7 < 12; omega, h2.1, by show Go.bits .and .i64 y.f1 3 < 6; omega⟩
    have hf9 : ((l.take i).map fdt).filter (kp 9) = [] := by
     rw [List.filter_eq_nil_iff]
     intro m hm
     obtain ⟨y, _, rfl⟩ := List.mem_map.1 hm
     have h1 := and7 y.f0
     simp [kp, fdt]
     omega
    have hr2 : ∀ m ∈ (l.take i).map fdt, r2 m := fun m hm => by
     obtain ⟨y, hy, rfl⟩ := List.mem_map.1 hm
     exact HG.out y (List.mem_of_mem_take hy)
    generalize (l.take i).map fdt = acc at HO hn30 hwi hf9 hr2
    obtain ⟨A5, c5, rfl, hC5, hc5⟩ := R_c HO.out
    have htp := turnl_perm acc v.toNat
    have htl := htp.length_eq
    have hT := fun W => turned_c A5 c5 acc v W
    rw [htl] at hT
    generalize turnl acc v.toNat = t at hT htp htl
    have hwt : ∀ m ∈ t, wi m := fun m hm => hwi m (htp.mem_iff.1 hm)
    have hrt : ∀ m ∈ t, r2 m := fun m hm => hr2 m (htp.mem_iff.1 hm)
    have hE : mail_Encode.f t = some (t.flatMap enc, 0) := by
     unfold mail_Encode.f
     rw [if_pos ⟨hrt, by omega⟩, if_pos hwt]
    have hD : mail_Decode.f (t.flatMap enc) = some (t, 0, 0) := dec_enc t hwt hrt (by omega)
    have hfl := fl_len t
    rw [htl] at hfl
    have hs := sort_perm htp
    have hsl : (acc.mergeSort le).length = acc.length := by simp
    generalize t.flatMap enc = fl at hE hD hfl
    generalize hsp : acc.mergeSort le = s at hs hsl
    have HC5 := Lib.hid hC5
    have HT := Lib.hid hT
    have HE := Lib.hid hE
    have HD := Lib.hid hD
    have HTL := Lib.hid htl
    have HS := Lib.hid hs
    have HSL := Lib.hid hsl
    have HF9 := Lib.hid hf9
    have HFL := Lib.hid hfl
    have HSP := Lib.hid hsp
    clear hsp
    have hb10 : (wrap64 (10 * (acc.length : Int))) = 10 * (acc.length : Int) := by unfold wrap64; omega
    have hfi : (fl.length : Int) = 10 * (acc.length : Int) := by omega
    have hne : ((fl.length : Int) != 10 * (acc.length : Int)) = false := by rw [hfi]; simp
    obtain ⟨n, hnn⟩ : ∃ n, n = acc.length := ⟨_, rfl⟩
    have HNN := Lib.hid hnn
    clear hC5 hT hE hD htl hs hsl hf9 hwt hrt hwi hr2 htp hfl HO hfi hnn
    go_wp2_with fail
    refine (HT.out wr HC5.out hc5 (by omega) HV.out.1 HV.out.2).mono ?_
    rintro e w1 ⟨V1, e1, rfl, hC1, hc1, hb1⟩
    have HB1 := Lib.hid hb1
    have hC1' := hC1
    rw [← HTL.out] at hC1'
    have HC1 := Lib.hid hC1'
    clear hC1 hC1' hb1
    go_wp2_with fail
    have hcE := enc_ok V1 e1 t fl 0 w1 HC1.out (by rw [HTL.out]; exact hc1) HE.out
    rw [HTL.out] at hcE
    refine hcE.mono ?_
    rintro e w2 ⟨V2, e2, rfl, hC2, hc2, hb2⟩
    have HB2 := Lib.hid hb2
    have HC2 := Lib.hid hC2
    clear hC2 hb2 hcE
    go_wp2_with fail
    have hcD := dec_ok V2 e2 fl t 0 0 w2 HC2.out hc2 HD.out
    rw [HTL.out] at hcD
    refine hcD.mono ?_
    rintro e w3 ⟨V3, e3, rfl, hC3, hc3, hb3⟩
    have HB3 := Lib.hid hb3
    have HC3 := Lib.hid hC3
    clear hC3 hb3 hcD
    go_wp2_with fail
    have hcS := sorted_c V3 e3 t w3 (by rw [HTL.out]; exact HC3.out) (by have := HTL.out; omega)
    rw [HTL.out, HS.out] at hcS
    refine hcS.mono ?_
    rintro e w4 ⟨V4, e4, rfl, hC4, hc4, hb4⟩
    have HB4 := Lib.hid hb4
    have HC4 := Lib.hid hC4
    clear hC4 hb4 hcS
    go_wp2_with fail
    have hB5 : Below wr.heap.size wr w4 := below_step (below_step (below_step HB1.out HB2.out) HB3.out) HB4.out
    have hcS := sorted_c A5 c5 acc w4 (Kd.C_below HC5.out hB5) (by omega)
    rw [HSP.out] at hcS
    refine hcS.mono ?_
    rintro e w5 ⟨V5, e5, rfl, hC5s, hc5s, hb5⟩
    have HB5 := Lib.hid (below_step hB5 hb5)
    have HX := Lib.hid (Kd.C_below HC4.out hb5)
    have HY := Lib.hid hC5s
    have hB6 : Below w3.heap.size w3 w5 := below_step HB4.out hb5
    have HBK := Lib.hid (Kd.C_below HC3.out hB6)
    have HTT := Lib.hid (Kd.C_below HC1.out (below_step (below_step HB2.out HB3.out) hB6))
    have HOK := Lib.hid (Kd.C_below HC5.out HB5.out)
    have HBW := Lib.hid (below_then HB.out HB.out.size HB5.out)
    clear hC5s hb5 hcS hB5 hB6 HC4 HC3 HC1 HC5 HB4 HB3 HB2 HB1 HC2 HB5 HT HE HD HB
    go_wp2_with fail
    go_loopw [16] (fun v16 wq => ∃ j : Nat, j ≤ acc.length ∧ v16 = .int .i64 j ∧ Below w5.heap.size w5 wq) (fun v16 _ => acc.length - (intOf v16).toNat)
    case atStart => exact ⟨0, Nat.zero_le _, rfl, Below.refl _ _⟩
    case round =>
     obtain ⟨j, hj, rfl, hbq⟩ := hrel
     have HBQ := Lib.hid hbq
     clear hbq
     by_cases hjl : j < acc.length
     ·have dj : decide ((j : Int) < (acc.length : Int)) = true := decide_eq_true (by omega)
      have hjs : j < s.length := by rw [HSL.out]; exact hjl
      have hjt : j < t.length := by rw [HTL.out]; exact hjl
      have hX := HX.out
      have hY := HY.out
      have hK := HBK.out
      have hTT := HTT.out
      rw [← HSL.out] at hX hY
      obtain ⟨a4, x4, p0, p1, p2⟩ := msg_at hX hjs
      obtain ⟨a5, x5, q0, q1, q2⟩ := msg_at hY hjs
      rw [← HTL.out] at hK
      obtain ⟨a3, x3, r0, r1, r2⟩ := msg_at hK hjt
      obtain ⟨a1, x1, s0, s1, s2⟩ := msg_at hTT hjt
      subst x4 x5 x3 x1
      have bc : ∀ {p : Addr} {u : Value}, w5.cell? p = some u → wr.cell? p = some u := fun h => (HBQ.out.cell (World.block_lt_of_cell? w5 _ h)).trans h
      replace p0 := bc p0
      replace p1 := bc p1
      replace p2 := bc p2
      replace q0 := bc q0
      replace q1 := bc q1
      replace q2 := bc q2
      replace r0 := bc r0
      replace r1 := bc r1
      replace r2 := bc r2
      replace s0 := bc s0
      replace s1 := bc s1
      replace s2 := bc s2
      generalize s[j] = z at p0 p1 p2 q0 q1 q2
      generalize t[j] = y at r0 r1 r2 s0 s1 s2
      clear hX hY hK hTT bc hjs hjt
      go_wp2
      repeat (go_quiet (fail); try go_wp2)
      exact ⟨⟨j + 1, by omega, by go_num, pw_below_drewN HBQ.out _⟩, by simp [intOf]; omega⟩
     ·have dj : decide ((j : Int) < (acc.length : Int)) = false := decide_eq_false (by omega)
      go_wp2_with fail
      have hq : ∀ (W : World) (a : Option Addr) (n c n' c' : Nat), (binOp .eql 22 (.slice a n c) (.slice none n' c')).run Try.prog W = .ok (.bool a.isNone) W := fun W a n c n' c' => Lib.run_eql_slice_nil W _ _ a n c n' c' Try.underlying22
      have hcF := for_c A5 c5 acc 9 wr (Kd.C_below HOK.out HBQ.out) hc5 (by omega)
      rw [HF9.out, List.length_nil] at hcF
      refine hcF.mono ?_
      rintro e w6 ⟨V6, e6, rfl, hb6⟩
      have HB6 := Lib.hid (below_then HBW.out HBW.out.size (below_step HBQ.out hb6))
      have hcG := for_c A5 c5 acc 9 w6 (Kd.C_below HOK.out (below_step HBQ.out hb6)) hc5 (by omega)
      rw [HF9.out, List.length_nil] at hcG
      clear hb6 hcF
      cases V6 with
      | none =>
       go_wp2_with fail
       go_ret
       exact ⟨rfl, HB6.out⟩
      | some ad6 =>
       go_wp2_with fail
       refine hcG.mono ?_
       rintro e w7 ⟨V7, e7, rfl, hb7⟩
       have HB7 := Lib.hid (below_then HB6.out HB6.out.size hb7)
       clear hb7 hcG
       go_wp2_with fail
       go_ret
       exact ⟨rfl, HB7.out⟩
   ·have d1 : decide ((i : Int) < (l.length : Int)) = false := decide_eq_false (by omega)
    have hn30 : ((l.take i).map fdt).length ≤ 30 := by simp; omega
    have hwi : ∀ m ∈ (l.take i).map fdt, wi m := fun m hm => by
     obtain ⟨y, _, rfl⟩ := List.mem_map.1 hm
     have h1 := and7 y.f0
     have h2 := and3' y.f1
     exact ⟨h1.1, by show Go.bits .and .i64 y.f0 7 < 12; omega, h2.1, by show Go.bits .and .i64 y.f1 3 < 6; omega⟩
    have hf9 : ((l.take i).map fdt).filter (kp 9) = [] := by
     rw [List.filter_eq_nil_iff]
     intro m hm
     obtain ⟨y, _, rfl⟩ := List.mem_map.1 hm
     have h1 := and7 y.f0
     simp [kp, fdt]
     omega
    have hr2 : ∀ m ∈ (l.take i).map fdt, r2 m := fun m hm => by
     obtain ⟨y, hy, rfl⟩ := List.mem_map.1 hm
     exact HG.out y (List.mem_of_mem_take hy)
    generalize (l.take i).map fdt = acc at HO hn30 hwi hf9 hr2
    obtain ⟨A5, c5, rfl, hC5, hc5⟩ := R_c HO.out
    have htp := turnl_perm acc v.toNat
    have htl := htp.length_eq
    have hT := fun W => turned_c A5 c5 acc v W
    rw [htl] at hT
    generalize turnl acc v.toNat = t at hT htp htl
    have hwt : ∀ m ∈ t, wi m := fun m hm => hwi m (htp.mem_iff.1 hm)
    have hrt : ∀ m ∈ t, r2 m := fun m hm => hr2 m (htp.mem_iff.1 hm)
    have hE : mail_Encode.f t = some (t.flatMap enc, 0) := by
     unfold mail_Encode.f
     rw [if_pos ⟨hrt, by omega⟩, if_pos hwt]
    have hD : mail_Decode.f (t.flatMap enc) = some (t, 0, 0) := dec_enc t hwt hrt (by omega)
    have hfl := fl_len t
    rw [htl] at hfl
    have hs := sort_perm htp
    have hsl : (acc.mergeSort le).length = acc.length := by simp
    generalize t.flatMap enc = fl at hE hD hfl
    generalize hsp : acc.mergeSort le = s at hs hsl
    have HC5 := Lib.hid hC5
    have HT := Lib.hid hT
    have HE := Lib.hid hE
    have HD := Lib.hid hD
    have HTL := Lib.hid htl
    have HS := Lib.hid hs
    have HSL := Lib.hid hsl
    have HF9 := Lib.hid hf9
    have HFL := Lib.hid hfl
    have HSP := Lib.hid hsp
    clear hsp
    have hb10 : (wrap64 (10 * (acc.length : Int))) = 10 * (acc.length : Int) := by unfold wrap64; omega
    have hfi : (fl.length : Int) = 10 * (acc.length : Int) := by omega
    have hne : ((fl.length : Int) != 10 * (acc.length : Int)) = false := by rw [hfi]; simp
    obtain ⟨n, hnn⟩ : ∃ n, n = acc.length := ⟨_, rfl⟩
    have HNN := Lib.hid hnn
    clear hC5 hT hE hD htl hs hsl hf9 hwt hrt hwi hr2 htp hfl HO hfi hnn
    go_wp2_with fail
    refine (HT.out wr HC5.out hc5 (by omega) HV.out.1 HV.out.2).mono ?_
    rintro e w1 ⟨V1, e1, rfl, hC1, hc1, hb1⟩
    have HB1 := Lib.hid hb1
    have hC1' := hC1
    rw [← HTL.out] at hC1'
    have HC1 := Lib.hid hC1'
    clear hC1 hC1' hb1
    go_wp2_with fail
    have hcE := enc_ok V1 e1 t fl 0 w1 HC1.out (by rw [HTL.out]; exact hc1) HE.out
    rw [HTL.out] at hcE
    refine hcE.mono ?_
    rintro e w2 ⟨V2, e2, rfl, hC2, hc2, hb2⟩
    have HB2 := Lib.hid hb2
    have HC2 := Lib.hid hC2
    clear hC2 hb2 hcE
    go_wp2_with fail
    have hcD := dec_ok V2 e2 fl t 0 0 w2 HC2.out hc2 HD.out
    rw [HTL.out] at hcD
    refine hcD.mono ?_
    rintro e w3 ⟨V3, e3, rfl, hC3, hc3, hb3⟩
    have HB3 := Lib.hid hb3
    have HC3 := Lib.hid hC3
    clear hC3 hb3 hcD
    go_wp2_with fail
    have hcS := sorted_c V3 e3 t w3 (by rw [HTL.out]; exact HC3.out) (by have := HTL.out; omega)
    rw [HTL.out, HS.out] at hcS
    refine hcS.mono ?_
    rintro e w4 ⟨V4, e4, rfl, hC4, hc4, hb4⟩
    have HB4 := Lib.hid hb4
    have HC4 := Lib.hid hC4
    clear hC4 hb4 hcS
    go_wp2_with fail
    have hB5 : Below wr.heap.size wr w4 := below_step (below_step (below_step HB1.out HB2.out) HB3.out) HB4.out
    have hcS := sorted_c A5 c5 acc w4 (Kd.C_below HC5.out hB5) (by omega)
    rw [HSP.out] at hcS
    refine hcS.mono ?_
    rintro e w5 ⟨V5, e5, rfl, hC5s, hc5s, hb5⟩
    have HB5 := Lib.hid (below_step hB5 hb5)
    have HX := Lib.hid (Kd.C_below HC4.out hb5)
    have HY := Lib.hid hC5s
    have hB6 : Below w3.heap.size w3 w5 := below_step HB4.out hb5
    have HBK := Lib.hid (Kd.C_below HC3.out hB6)
    have HTT := Lib.hid (Kd.C_below HC1.out (below_step (below_step HB2.out HB3.out) hB6))
    have HOK := Lib.hid (Kd.C_below HC5.out HB5.out)
    have HBW := Lib.hid (below_then HB.out HB.out.size HB5.out)
    clear hC5s hb5 hcS hB5 hB6 HC4 HC3 HC1 HC5 HB4 HB3 HB2 HB1 HC2 HB5 HT HE HD HB
    go_wp2_with fail
    go_loopw [16] (fun v16 wq => ∃ j : Nat, j ≤ acc.length ∧ v16 = .int .i64 j ∧ Below w5.heap.size w5 wq) (fun v16 _ => acc.length - (intOf v16).toNat)
    case atStart => exact ⟨0, Nat.zero_le _, rfl, Below.refl _ _⟩
    case round =>
     obtain ⟨j, hj, rfl, hbq⟩ := hrel
     have HBQ := Lib.hid hbq
     clear hbq
     by_cases hjl : j < acc.length
     ·have dj : decide ((j : Int) < (acc.length : Int)) = true := decide_eq_true (by omega)
      have hjs : j < s.length := by rw [HSL.out]; exact hjl
      have hjt : j < t.length := by rw [HTL.out]; exact hjl
      have hX := HX.out
      have hY := HY.out
      have hK := HBK.out
      have hTT := HTT.out
      rw [← HSL.out] at hX hY
      obtain ⟨a4, x4, p0, p1, p2⟩ := msg_at hX hjs
      obtain ⟨a5, x5, q0, q1, q2⟩ := msg_at hY hjs
      rw [← HTL.out] at hK
      obtain ⟨a3, x3, r0, r1, r2⟩ := msg_at hK hjt
      obtain ⟨a1, x1, s0, s1, s2⟩ := msg_at hTT hjt
      subst x4 x5 x3 x1
      have bc : ∀ {p : Addr} {u : Value}, w5.cell? p = some u → wr.cell? p = some u := fun h => (HBQ.out.cell (World.block_lt_of_cell? w5 _ h)).trans h
      replace p0 := bc p0
      replace p1 := bc p1
      replace p2 := bc p2
      replace q0 := bc q0
      replace q1 := bc q1
      replace q2 := bc q2
      replace r0 := bc r0
      replace r1 := bc r1
      replace r2 := bc r2
      replace s0 := bc s0
      replace s1 := bc s1
      replace s2 := bc s2
      generalize s[j] = z at p0 p1 p2 q0 q1 q2
      generalize t[j] = y at r0 r1 r2 s0 s1 s2
      clear hX hY hK hTT bc hjs hjt
      go_wp2
      repeat (go_quiet (fail); try go_wp2)
      exact ⟨⟨j + 1, by omega, by go_num, pw_below_drewN HBQ.out _⟩, by simp [intOf]; omega⟩
     ·have dj : decide ((j : Int) < (acc.length : Int)) = false := decide_eq_false (by omega)
      go_wp2_with fail
      have hq : ∀ (W : World) (a : Option Addr) (n c n' c' : Nat), (binOp .eql 22 (.slice a n c) (.slice none n' c')).run Try.prog W = .ok (.bool a.isNone) W := fun W a n c n' c' => Lib.run_eql_slice_nil W _ _ a n c n' c' Try.underlying22
      have hcF := for_c A5 c5 acc 9 wr (Kd.C_below HOK.out HBQ.out) hc5 (by omega)
      rw [HF9.out, List.length_nil] at hcF
      refine hcF.mono ?_
      rintro e w6 ⟨V6, e6, rfl, hb6⟩
      have HB6 := Lib.hid (below_then HBW.out HBW.out.size (below_step HBQ.out hb6))
      have hcG := for_c A5 c5 acc 9 w6 (Kd.C_below HOK.out (below_step HBQ.out hb6)) hc5 (by omega)
      rw [HF9.out, List.length_nil] at hcG
      clear hb6 hcF
      cases V6 with
      | none =>
       go_wp2_with fail
       go_ret
       exact ⟨rfl, HB6.out⟩
      | some ad6 =>
       go_wp2_with fail
       refine hcG.mono ?_
       rintro e w7 ⟨V7, e7, rfl, hb7⟩
       have HB7 := Lib.hid (below_then HB6.out HB6.out.size hb7)
       clear hb7 hcG
       go_wp2_with fail
       go_ret
       exact ⟨rfl, HB7.out⟩
end Go.Proofs.Ythmenclkgngkkaa.M
