/- The law of the whole: whoever took a number in, in whatever order. -/
import Derived.Test.YtdohoajphknciaaAggN
import Derived.Laws.Closers25b
set_option linter.unusedSimpArgs false
set_option linter.unusedVariables false
namespace Go.Proofs.Ytdohoajphknciaa.Agg
open Go.RowKit Go.Proofs.Ytdohoajphknciaa.Open Go.Proofs.Ytdohoajphknciaa.PT Go.Proofs.Ytdohoajphknciaa.Pure Go.Proofs.Ytdohoajphknciaa.Perm Go.Proofs.YtdohoajphknciaaW.PrintWords Go.Proofs.YtdohoajphknciaaW.PrintLast Go.Proofs.YtdohoajphknciaaW.PrintMore

theorem and3 (y : Int) : 0 ≤ Go.bits .and .i64 y 3 ∧ Go.bits .and .i64 y 3 ≤ 3 := by
 have h : ((BitVec.ofInt 64 y) &&& (BitVec.ofInt 64 3)).toNat ≤ 3 := by
  rw [BitVec.toNat_and]
  exact Nat.le_trans Nat.and_le_right (by decide)
 unfold Go.bits
 show 0 ≤ IntKind.i64.wrap (((BitVec.ofInt 64 y) &&& (BitVec.ofInt 64 3)).toNat : Int) ∧ IntKind.i64.wrap (((BitVec.ofInt 64 y) &&& (BitVec.ofInt 64 3)).toNat : Int) ≤ 3
 generalize ((BitVec.ofInt 64 y) &&& (BitVec.ofInt 64 3)).toNat = m at h
 have e : IntKind.i64.wrap (m : Int) = m := by
  have : m = 0 ∨ m = 1 ∨ m = 2 ∨ m = 3 := by omega
  rcases this with rfl | rfl | rfl | rfl <;> decide +kernel
 rw [e]; omega

theorem fold_perm {o f : Int} (ho : takes o) {l l' : List Int} (h : l.Perm l') : fold o f l = fold o f l' :=
 List.Perm.foldl_eq' h (fun x _ y _ z => red_comm ho z x y) f
theorem whole_upto {o f : Int} (h : num_Reduces.f 3 o = some (f, true)) {ls : List (List Int)} (hl : All64 ls) : ∀ t, t ≤ ls.length → (upto t).foldl (fun a i => red o a (sums o f ls i.toNat)) f = fold o f (ls.take t).flatten
 | 0, _ => rfl
 | t + 1, ht => by
  rw [upto_snoc, List.foldl_append, whole_upto h hl t (by omega), List.foldl_cons, List.foldl_nil, Int.toNat_natCast, List.take_succ_eq_append_getElem (show t < ls.length by omega), List.flatten_append]
  have e : ([ls[t]] : List (List Int)).flatten = ls.getD t [] := by simp [List.getD, show t < ls.length by omega]
  rw [e, fold_app h]
  ·rfl
  ·intro x hx
   obtain ⟨l, h1, h2⟩ := List.mem_flatten.1 hx
   exact hl l (List.mem_of_mem_take h1) x h2
theorem whole_any {o f : Int} (h : num_Reduces.f 3 o = some (f, true)) {ls : List (List Int)} (hl : All64 ls) (k : Nat) : all o f (sums o f ls) (ord ls.length k) = fold o f ls.flatten := by
 have e := List.Perm.foldl_eq' (f := fun a (i : Int) => red o a (sums o f ls i.toNat)) (ord_perm ls.length k) (fun x _ y _ z => red_comm (red_of 2 o f h) z _ _) f
 have e2 := whole_upto h hl _ (Nat.le_refl _)
 rw [List.take_length] at e2
 exact e.trans e2

theorem set_perm : ∀ (ls : List (List Int)) (j : Nat) (x : Int), j < ls.length → (ls.set j (ls.getD j [] ++ [x])).flatten.Perm (ls.flatten ++ [x])
 | [], j, x, h => by simp at h
 | l :: ls, 0, x, _ => by
  simp only [List.set_cons_zero, List.flatten_cons, List.append_assoc]
  exact List.Perm.append_left _ List.perm_append_comm
 | l :: ls, j + 1, x, h => by
  simp only [List.set_cons_succ, List.flatten_cons, List.append_assoc, List.getD_cons_succ]
  exact List.Perm.append_left _ (set_perm ls j x (by simpa using h))
theorem cnt_flat (ls : List (List Int)) : cnt ls = ls.flatten.length := by
 simp [cnt, List.length_flatten]
theorem flat_le {ls : List (List Int)} {l : List Int} (h : l ∈ ls) : l.length ≤ ls.flatten.length := by
 obtain ⟨s, t, rfl⟩ := List.append_of_mem h
 simp
 omega
theorem All64.of_flat {ls : List (List Int)} (h : ∀ x ∈ ls.flatten, in64 x) : All64 ls := fun l hl x hx => h x (List.mem_flatten.2 ⟨l, hl, hx⟩)

/-- What of a number is taken in. -/
def seen1 (o x : Int) : Int := if o = 16 ∨ o = 17 then Go.bits .and .i64 x 1 else x
theorem seen64 {o x : Int} (h : in64 x) : in64 (seen1 o x) := by
 unfold seen1
 split
 ·exact ⟨bits_lo_i64 .and x 1, bits_hi_i64 .and x 1⟩
 ·exact h

theorem int_at {w : World} {A : Option Addr} {l : List Int} (h : Kd.C (Kd.int .i64) w A l.length l) {i : Nat} (hi : i < l.length) : ∃ ad, A = some ad ∧ w.cell? (ad.add i) = some (.int .i64 l[i]) := by
 obtain ⟨ad, rfl, hc⟩ := h.2.2 (by omega)
 obtain ⟨c, h1, h2, h3⟩ := hc i l[i] (List.getElem?_eq_getElem hi)
 have h2' : c = [.int .i64 l[i]] := h2
 subst h2'
 have := h3 0 _ rfl
 rw [show (Kd.int .i64).sz = 1 from rfl, Nat.mul_one, Nat.add_zero] at this
 exact ⟨ad, rfl, this⟩

theorem wf64' {x : Int} (h : (Lit.int .i64 x).wf = true) : in64 x := by
 simp only [Lit.wf, Bool.and_eq_true, decide_eq_true_eq] at h
 rw [show IntKind.i64.min = -9223372036854775808 from by decide +kernel, show IntKind.i64.max = 9223372036854775807 from by decide +kernel] at h
 exact h
theorem inside0 {w : World} {b : Bool} {A : Option Addr} {o f : Int} {ls : List (List Int)} (h : AgN w b A o f ls) {g : Nat} (e : blk A = some g) : g < w.heap.size := by
 cases b with
 | false => rw [show A = none from h] at e; cases e
 | true => obtain ⟨k, rfl, h⟩ := h; injection e with e; subst e; exact h.lt
theorem ne_back {A B : Option Addr} (h : blk A = none ∨ blk B ≠ blk A) : blk B = none ∨ blk A ≠ blk B := by
 by_cases e : blk B = none
 ·exact Or.inl e
 ·right
  intro q
  rcases h with h | h
  ·rw [h] at q; exact e q.symm
  ·exact h q.symm
theorem code3 {lb : List (List Int)} (y : Int) (h : lb.length = 4) : code true lb.length (Go.bits .and .i64 y 3) = 0 := by
 have := and3 y
 unfold code
 rw [if_neg (by decide), if_neg (by omega)]
theorem took_perm {lb : List (List Int)} {x : Int} (y : Int) (h : lb.length = 4) : (took lb (Go.bits .and .i64 y 3) x).flatten.Perm (lb.flatten ++ [x]) := by
 have := and3 y
 rw [took, if_neg (by omega)]
 exact set_perm lb _ x (by omega)

set_option maxHeartbeats 16000000 in
theorem whole_walk (W : World) (o : Int) (_ : (Lit.int .u8 o).wf = true) (A : Option Addr) (c : Nat) (l : List Int) (_ : l.length ≤ c) (hr : Kd.C (Kd.int .i64) W A l.length l) (hg : l.length ≤ maxLen ∧ ∀ x ∈ l, (Lit.int .i64 x).wf = true) (hb : l.length * 8 ≤ 140737488351232) (k0 : Int) (hk0 : 0 ≤ k0 ∧ k0 ≤ 18446744073709551615) :
  Calls Try.prog 4 #[.int .u8 o, .slice A l.length c, .int .u64 k0] W fun e w' => e = .returned (.bool true) ∧ Below W.heap.size W w' := by
 obtain ⟨k, rfl⟩ := Int.eq_ofNat_of_zero_le hk0.1
 have HR := Lib.hid hr
 have HG := Lib.hid hg.2
 clear hr hg
 obtain ⟨f, b, hf⟩ := reduces_some 2 o
 have hf0 : fst0 o = f := by simp [fst0, hf]
 have hl1 : isL o 1 = b := by simp [isL, hf]
 have hl4 : isL o 4 = b := by simp [isL, hf]
 have hfr : PA.reticuleref01_Reduces.f 3 o = some (f, b) := (ref_reduces 2 o).trans hf
 have HF := Lib.hid hf
 have HFR := Lib.hid hfr
 clear hf hfr
 go_enter Try.func4, Try.ntmps4
 go_wp2_with fail
 refine (new_A o 1 _).mono ?_
 rintro e w1 ⟨P, rfl, hp, hlp, hb1⟩
 rw [hl1, hf0] at hp
 have HP := Lib.hid hp
 have HLP := Lib.hid hlp
 have HB1 := Lib.hid hb1
 clear hp hlp hb1
 go_wp2_with fail
 refine (new_A o 4 _).mono ?_
 rintro e w2 ⟨Q, rfl, hq, hlq, hb2⟩
 rw [hl4, hf0] at hq
 have HP2 := Lib.hid (HP.out.below hb2)
 have HQ := Lib.hid hq
 have HNE := Lib.hid (show blk P = none ∨ blk Q ≠ blk P from by
  cases e : blk P with
  | none => exact Or.inl rfl
  | some g =>
   right
   intro q
   have := inside0 HP.out e
   have := hlq g q
   omega)
 have HLQ := Lib.hid (show ∀ g, blk Q = some g → W.heap.size ≤ g from fun g e => Nat.le_trans HB1.out.size (hlq g e))
 have HB2 := Lib.hid (below_step HB1.out hb2)
 clear hq hlq hb2 hl1 hl4 hf0
 go_wp2_with fail
 refine (PA.reticuleref01_Reduces.calls 3 o f b _ HFR.out).mono ?_
 rintro e w3 ⟨rfl, ⟨m3, rfl⟩⟩
 have HB3 := Lib.hid (pw_below_drewN HB2.out m3)
 have hd3 : Below w2.heap.size w2 (w2.drewN m3) := pw_below_drewN (Below.refl _ _) m3
 have HP3 := Lib.hid (HP2.out.below hd3)
 have HQ3 := Lib.hid (HQ.out.below hd3)
 clear hd3
 cases b with
 | false =>
  obtain rfl : P = none := HP.out
  obtain rfl : Q = none := HQ.out
  go_wp2_with fail
  refine (live_ok _).mono ?_
  rintro e w4 ⟨rfl, hb4⟩
  have HB4 := Lib.hid (below_step HB3.out hb4)
  clear hb4
  go_wp2
  go_ret
  exact ⟨rfl, HB4.out⟩
 | true =>
  obtain ⟨g, rfl, _⟩ := HP.out
  obtain ⟨g', rfl, _⟩ := HQ.out
  go_wp2_with fail
  refine (live_ok _).mono ?_
  rintro e w4 ⟨rfl, hb4⟩
  have HB4 := Lib.hid (below_step HB3.out hb4)
  have HP4 := Lib.hid (HP3.out.below hb4)
  have HQ4 := Lib.hid (HQ3.out.below hb4)
  clear hb4
  by_cases h30 : 30 < l.length
  ·have hd : decide (30 < (l.length : Int)) = true := decide_eq_true (by omega)
   obtain ⟨L, hL⟩ : ∃ L, L = (l.take (30)).map (seen1 o) := ⟨_, rfl⟩
   have hLl : L.length = 30 := by rw [hL, List.length_map, List.length_take]; omega
   have hL64 : ∀ x ∈ L, in64 x := fun x hx => by
    rw [hL] at hx
    obtain ⟨y, hy, rfl⟩ := List.mem_map.1 hx
    exact seen64 (wf64' (HG.out y (List.mem_of_mem_take hy)))
   have HL := Lib.hid hL
   have HLl := Lib.hid hLl
   have HL64 := Lib.hid hL64
   clear hL hLl hL64
   go_wp2_with fail
   go_loopw [12, 13, 14] (fun v12 _ _ wr => ∃ (i : Nat) (lb : List (List Int)), i ≤ 30 ∧ v12 = .int .i64 i ∧ AgN wr true (some ⟨g, 0, none⟩) o f [L.take i] ∧ AgN wr true (some ⟨g', 0, none⟩) o f lb ∧ lb.length = 4 ∧ lb.flatten.Perm (L.reverse.take i) ∧ Below W.heap.size W wr) (fun v12 _ _ _ => 30 - (intOf v12).toNat)
   case atStart => exact ⟨0, [[], [], [], []], Nat.zero_le _, rfl, HP4.out, HQ4.out, rfl, List.Perm.refl _, HB4.out⟩
   case round =>
    obtain ⟨i, lb, hi, rfl, hpa, hqa, h4, hpm, hbr⟩ := hrel
    have hm1 : May o f [L.take i] 1000 := ⟨HF.out, by simp, by simp, fun l' hl' => by rw [List.mem_singleton.1 hl', List.length_take]; omega⟩
    have hm2 : May o f lb 1000 := ⟨HF.out, by omega, by omega, fun l' hl' => by
     have := flat_le hl'
     rw [hpm.length_eq, List.length_take] at this
     omega⟩
    by_cases hlt : i < 30
    ·have hil : i < l.length := by omega
     obtain ⟨q, hq⟩ : ∃ q : Nat, q = 30 - 1 - i := ⟨_, rfl⟩
     have hql : q < l.length := by omega
     have eq1 : (29 : Int) - (i : Int) = (q : Int) := by omega
     obtain ⟨ad, rfl, c1⟩ := int_at HR.out hil
     obtain ⟨ad', hA', c2⟩ := int_at HR.out hql
     injection hA' with hA'
     subst hA'
     have r1 := (hbr.cell (World.block_lt_of_cell? W _ c1)).trans c1
     have r2 := (hbr.cell (World.block_lt_of_cell? W _ c2)).trans c2
     have hL1 : L[i]? = some (seen1 o l[i]) := by
      rw [HL.out, List.getElem?_map, List.getElem?_take_of_lt hlt, List.getElem?_eq_getElem hil]; rfl
     have hL2 : L.reverse[i]? = some (seen1 o l[q]) := by
      rw [List.getElem?_reverse (by rw [HLl.out]; exact hlt), HLl.out, ← hq, HL.out, List.getElem?_map, List.getElem?_take_of_lt (by omega), List.getElem?_eq_getElem hql]; rfl
     obtain ⟨x1, hx1⟩ : ∃ x, x = l[i] := ⟨_, rfl⟩
     obtain ⟨x2, hx2⟩ : ∃ x, x = l[q] := ⟨_, rfl⟩
     rw [← hx1] at r1 hL1
     rw [← hx2] at r2 hL2
     have HPA := Lib.hid hpa
     have HQA := Lib.hid hqa
     have H4 := Lib.hid h4
     have HPM := Lib.hid hpm
     have HB := Lib.hid hbr
     have HM1 := Lib.hid hm1
     have HM2 := Lib.hid hm2
     have HL1 := Lib.hid hL1
     have HL2 := Lib.hid hL2
     clear hpa hqa h4 hpm hbr hm1 hm2 hx1 hx2 hL1 hL2 c1 c2 hq
     by_cases h16 : o = 16
     ·have z16 : (o == 16) = true := beq_iff_eq.2 h16
      have hs : ∀ x, seen1 o x = Go.bits .and .i64 x 1 := fun x => by simp [seen1, h16]
      have HS := Lib.hid hs
      clear hs h16
      go_wp2_with fail
      refine (take_A true (some ⟨g, 0, none⟩) o f 0 _ [L.take i] _ HPA.out (fun _ => HM1.out)).mono ?_
      rintro e w5 ⟨rfl, ha5, hg5⟩
      rw [show code true ([L.take i] : List (List Int)).length 0 = 0 from rfl]
      have HA5 := Lib.hid ha5
      have HQ5 := Lib.hid (HQA.out.kept hg5 HNE.out)
      have HB5 := Lib.hid (HB.out.grown hg5 HB.out.size HLP.out)
      clear ha5 hg5
      go_wp2_with fail
      refine (take_A true (some ⟨g', 0, none⟩) o f _ _ lb _ HQ5.out (fun _ => HM2.out)).mono ?_
      rintro e w6 ⟨rfl, ha6, hg6⟩
      rw [code3 _ H4.out]
      have HA6 := Lib.hid (HA5.out.kept hg6 (ne_back HNE.out))
      have HQ6 := Lib.hid ha6
      have HB6 := Lib.hid (HB5.out.grown hg6 HB5.out.size HLQ.out)
      clear ha6 hg6
      go_wp2
      go_roundw
      case rel =>
       refine ⟨i + 1, _, by omega, by go_num, ?_, HQ6.out, by rw [took_len]; exact H4.out, ?_, HB6.out⟩
       ·have := HA6.out
        rw [← HS.out x1] at this
        rw [List.take_succ_eq_append_getElem (by rw [HLl.out]; exact hlt)]
        have e1 : L[i]'(by rw [HLl.out]; exact hlt) = seen1 o x1 := by
         have := HL1.out
         rw [List.getElem?_eq_getElem (by rw [HLl.out]; exact hlt)] at this
         injection this
        rw [e1]
        exact this
       ·rw [← HS.out x2]
        refine (took_perm _ H4.out).trans ?_
        have hlr : i < L.reverse.length := by rw [List.length_reverse, HLl.out]; exact hlt
        rw [List.take_succ_eq_append_getElem hlr]
        have e1 : L.reverse[i] = seen1 o x2 := by
         have := HL2.out
         rw [List.getElem?_eq_getElem hlr] at this
         injection this
        rw [e1]
        exact List.Perm.append_right _ HPM.out
      case measure => simp [intOf]; omega

     ·by_cases h17 : o = 17
      ·have z16 : (o == 16) = false := beq_eq_false_iff_ne.2 h16
       have z17 : (o == 17) = true := beq_iff_eq.2 h17
       have hs : ∀ x, seen1 o x = Go.bits .and .i64 x 1 := fun x => by simp [seen1, h17]
       have HS := Lib.hid hs
       clear hs h16 h17
       go_wp2_with fail
       refine (take_A true (some ⟨g, 0, none⟩) o f 0 _ [L.take i] _ HPA.out (fun _ => HM1.out)).mono ?_
       rintro e w5 ⟨rfl, ha5, hg5⟩
       rw [show code true ([L.take i] : List (List Int)).length 0 = 0 from rfl]
       have HA5 := Lib.hid ha5
       have HQ5 := Lib.hid (HQA.out.kept hg5 HNE.out)
       have HB5 := Lib.hid (HB.out.grown hg5 HB.out.size HLP.out)
       clear ha5 hg5
       go_wp2_with fail
       refine (take_A true (some ⟨g', 0, none⟩) o f _ _ lb _ HQ5.out (fun _ => HM2.out)).mono ?_
       rintro e w6 ⟨rfl, ha6, hg6⟩
       rw [code3 _ H4.out]
       have HA6 := Lib.hid (HA5.out.kept hg6 (ne_back HNE.out))
       have HQ6 := Lib.hid ha6
       have HB6 := Lib.hid (HB5.out.grown hg6 HB5.out.size HLQ.out)
       clear ha6 hg6
       go_wp2
       go_roundw
       case rel =>
        refine ⟨i + 1, _, by omega, by go_num, ?_, HQ6.out, by rw [took_len]; exact H4.out, ?_, HB6.out⟩
        ·have := HA6.out
         rw [← HS.out x1] at this
         rw [List.take_succ_eq_append_getElem (by rw [HLl.out]; exact hlt)]
         have e1 : L[i]'(by rw [HLl.out]; exact hlt) = seen1 o x1 := by
          have := HL1.out
          rw [List.getElem?_eq_getElem (by rw [HLl.out]; exact hlt)] at this
          injection this
         rw [e1]
         exact this
        ·rw [← HS.out x2]
         refine (took_perm _ H4.out).trans ?_
         have hlr : i < L.reverse.length := by rw [List.length_reverse, HLl.out]; exact hlt
         rw [List.take_succ_eq_append_getElem hlr]
         have e1 : L.reverse[i] = seen1 o x2 := by
          have := HL2.out
          rw [List.getElem?_eq_getElem hlr] at this
          injection this
         rw [e1]
         exact List.Perm.append_right _ HPM.out
       case measure => simp [intOf]; omega

      ·have z16 : (o == 16) = false := beq_eq_false_iff_ne.2 h16
       have z17 : (o == 17) = false := beq_eq_false_iff_ne.2 h17
       have hs : ∀ x, seen1 o x = x := fun x => by simp [seen1, h16, h17]
       have HS := Lib.hid hs
       clear hs h16 h17
       go_wp2_with fail
       refine (take_A true (some ⟨g, 0, none⟩) o f 0 _ [L.take i] _ HPA.out (fun _ => HM1.out)).mono ?_
       rintro e w5 ⟨rfl, ha5, hg5⟩
       rw [show code true ([L.take i] : List (List Int)).length 0 = 0 from rfl]
       have HA5 := Lib.hid ha5
       have HQ5 := Lib.hid (HQA.out.kept hg5 HNE.out)
       have HB5 := Lib.hid (HB.out.grown hg5 HB.out.size HLP.out)
       clear ha5 hg5
       go_wp2_with fail
       refine (take_A true (some ⟨g', 0, none⟩) o f _ _ lb _ HQ5.out (fun _ => HM2.out)).mono ?_
       rintro e w6 ⟨rfl, ha6, hg6⟩
       rw [code3 _ H4.out]
       have HA6 := Lib.hid (HA5.out.kept hg6 (ne_back HNE.out))
       have HQ6 := Lib.hid ha6
       have HB6 := Lib.hid (HB5.out.grown hg6 HB5.out.size HLQ.out)
       clear ha6 hg6
       go_wp2
       go_roundw
       case rel =>
        refine ⟨i + 1, _, by omega, by go_num, ?_, HQ6.out, by rw [took_len]; exact H4.out, ?_, HB6.out⟩
        ·have := HA6.out
         rw [← HS.out x1] at this
         rw [List.take_succ_eq_append_getElem (by rw [HLl.out]; exact hlt)]
         have e1 : L[i]'(by rw [HLl.out]; exact hlt) = seen1 o x1 := by
          have := HL1.out
          rw [List.getElem?_eq_getElem (by rw [HLl.out]; exact hlt)] at this
          injection this
         rw [e1]
         exact this
        ·rw [← HS.out x2]
         refine (took_perm _ H4.out).trans ?_
         have hlr : i < L.reverse.length := by rw [List.length_reverse, HLl.out]; exact hlt
         rw [List.take_succ_eq_append_getElem hlr]
         have e1 : L.reverse[i] = seen1 o x2 := by
          have := HL2.out
          rw [List.getElem?_eq_getElem hlr] at this
          injection this
         rw [e1]
         exact List.Perm.append_right _ HPM.out
       case measure => simp [intOf]; omega

    ·have hie : i = 30 := by omega
     have hLi : L.take i = L := List.take_of_length_le (by rw [HLl.out]; omega)
     have hRi : L.reverse.take i = L.reverse := List.take_of_length_le (by rw [List.length_reverse, HLl.out]; omega)
     rw [hLi] at hpa hm1
     rw [hRi] at hpm
     have hpm' : lb.flatten.Perm L := hpm.trans (List.reverse_perm L)
     have hd3 : decide ((i : Int) < (30 : Int)) = false := decide_eq_false (by omega)
     have HPA := Lib.hid hpa
     have HQA := Lib.hid hqa
     have HB := Lib.hid hbr
     have HM1 := Lib.hid hm1
     have HM2 := Lib.hid hm2
     have e1 : wh true o f [L] k = fold o f L := by
      rw [wh, if_pos rfl, whole_any HF.out (fun l' hl' => by rw [List.mem_singleton.1 hl']; exact HL64.out)]
      simp
     have e2 : wh true o f lb k = fold o f L := by
      rw [wh, if_pos rfl, whole_any HF.out (All64.of_flat (fun x hx => HL64.out x (hpm'.mem_iff.1 hx)))]
      exact fold_perm (red_of 2 o f HF.out) hpm'
     have e3 : pt true o f [L] 0 = fold o f L := by simp [pt, code, sums]
     have e4 : ct true [L] = (30 : Int) := by simp [ct, cnt, HLl.out]
     have e5 : ct true lb = (30 : Int) := by rw [ct, if_pos rfl, cnt_flat, hpm'.length_eq, HLl.out]; try rfl
     have e6 : 30 = 0 → fold o f L = f := fun h => by
      have : L = [] := List.length_eq_zero_iff.1 (by rw [HLl.out, h])
      rw [this]; rfl
     have E1 := Lib.hid e1
     have E2 := Lib.hid e2
     have E3 := Lib.hid e3
     have E4 := Lib.hid e4
     have E5 := Lib.hid e5
     have E6 := Lib.hid e6
     have HKK := Lib.hid hk0.2
     clear hpa hqa hpm hpm' hbr hm1 hm2 h4 hie hLi hRi e1 e2 e3 e4 e5 e6
     go_wp2_with fail
     refine (whole_A true _ o f k [L] _ HPA.out (fun _ => HM1.out) HKK.out).mono ?_
     rintro e w6 ⟨rfl, hb6⟩
     rw [E1.out, show er true = 0 from rfl]
     have HB6 := Lib.hid (below_step HB.out hb6)
     have HPA := Lib.hid (HPA.out.below hb6)
     have HQA := Lib.hid (HQA.out.below hb6)
     clear hb6
     go_wp2_with fail
     refine (whole_A true _ o f k lb _ HQA.out (fun _ => HM2.out) HKK.out).mono ?_
     rintro e w7 ⟨rfl, hb7⟩
     rw [E2.out, show er true = 0 from rfl]
     have HB7 := Lib.hid (below_step HB6.out hb7)
     have HPA := Lib.hid (HPA.out.below hb7)
     have HQA := Lib.hid (HQA.out.below hb7)
     clear hb7
     go_wp2_with fail
     refine (part_A true _ o f 0 [L] _ HPA.out (fun _ => HM1.out)).mono ?_
     rintro e w8 ⟨rfl, hb8⟩
     rw [E3.out, show code true ([L] : List (List Int)).length 0 = 0 from rfl]
     have HB8 := Lib.hid (below_step HB7.out hb8)
     have HPA := Lib.hid (HPA.out.below hb8)
     have HQA := Lib.hid (HQA.out.below hb8)
     clear hb8
     obtain ⟨X, hX⟩ : ∃ X, X = fold o f L := ⟨_, rfl⟩
     rw [← hX]
     have HX := Lib.hid hX
     clear hX
     have y1 : (X == X) = true := by simp
     go_wp2_with fail
     refine (count_A true _ o f [L] _ HPA.out (fun _ => HM1.out)).mono ?_
     rintro e w9 ⟨rfl, hb9⟩
     rw [E4.out]
     have HB9 := Lib.hid (below_step HB8.out hb9)
     have HQA := Lib.hid (HQA.out.below hb9)
     clear hb9
     go_wp2_with fail
     refine (count_A true _ o f lb _ HQA.out (fun _ => HM2.out)).mono ?_
     rintro e w10 ⟨rfl, hb10⟩
     rw [E5.out]
     have HB10 := Lib.hid (below_step HB9.out hb10)
     clear hb10
     have y2 : ((30 : Int) == (30 : Int)) = true := by simp
     by_cases hz : 30 = 0
     ·have y3 : decide ((30 : Int) > 0) = false := decide_eq_false (by omega)
      have y4 : (X == f) = true := by rw [HX.out, E6.out hz]; simp
      go_wp2
      go_ret
      exact ⟨rfl, HB10.out⟩
     ·have y3 : decide ((30 : Int) > 0) = true := decide_eq_true (by omega)
      go_wp2
      go_ret
      exact ⟨rfl, HB10.out⟩
  ·have hd : decide (30 < (l.length : Int)) = false := decide_eq_false (by omega)
   obtain ⟨L, hL⟩ : ∃ L, L = (l.take (l.length)).map (seen1 o) := ⟨_, rfl⟩
   have hLl : L.length = l.length := by rw [hL, List.length_map, List.length_take]; omega
   have hL64 : ∀ x ∈ L, in64 x := fun x hx => by
    rw [hL] at hx
    obtain ⟨y, hy, rfl⟩ := List.mem_map.1 hx
    exact seen64 (wf64' (HG.out y (List.mem_of_mem_take hy)))
   have HL := Lib.hid hL
   have HLl := Lib.hid hLl
   have HL64 := Lib.hid hL64
   clear hL hLl hL64
   go_wp2_with fail
   go_loopw [12, 13, 14] (fun v12 _ _ wr => ∃ (i : Nat) (lb : List (List Int)), i ≤ l.length ∧ v12 = .int .i64 i ∧ AgN wr true (some ⟨g, 0, none⟩) o f [L.take i] ∧ AgN wr true (some ⟨g', 0, none⟩) o f lb ∧ lb.length = 4 ∧ lb.flatten.Perm (L.reverse.take i) ∧ Below W.heap.size W wr) (fun v12 _ _ _ => l.length - (intOf v12).toNat)
   case atStart => exact ⟨0, [[], [], [], []], Nat.zero_le _, rfl, HP4.out, HQ4.out, rfl, List.Perm.refl _, HB4.out⟩
   case round =>
    obtain ⟨i, lb, hi, rfl, hpa, hqa, h4, hpm, hbr⟩ := hrel
    have hm1 : May o f [L.take i] 1000 := ⟨HF.out, by simp, by simp, fun l' hl' => by rw [List.mem_singleton.1 hl', List.length_take]; omega⟩
    have hm2 : May o f lb 1000 := ⟨HF.out, by omega, by omega, fun l' hl' => by
     have := flat_le hl'
     rw [hpm.length_eq, List.length_take] at this
     omega⟩
    by_cases hlt : i < l.length
    ·have hil : i < l.length := by omega
     obtain ⟨q, hq⟩ : ∃ q : Nat, q = l.length - 1 - i := ⟨_, rfl⟩
     have hql : q < l.length := by omega
     have eq1 : (l.length : Int) - 1 - (i : Int) = (q : Int) := by omega
     obtain ⟨ad, rfl, c1⟩ := int_at HR.out hil
     obtain ⟨ad', hA', c2⟩ := int_at HR.out hql
     injection hA' with hA'
     subst hA'
     have r1 := (hbr.cell (World.block_lt_of_cell? W _ c1)).trans c1
     have r2 := (hbr.cell (World.block_lt_of_cell? W _ c2)).trans c2
     have hL1 : L[i]? = some (seen1 o l[i]) := by
      rw [HL.out, List.getElem?_map, List.getElem?_take_of_lt hlt, List.getElem?_eq_getElem hil]; rfl
     have hL2 : L.reverse[i]? = some (seen1 o l[q]) := by
      rw [List.getElem?_reverse (by rw [HLl.out]; exact hlt), HLl.out, ← hq, HL.out, List.getElem?_map, List.getElem?_take_of_lt (by omega), List.getElem?_eq_getElem hql]; rfl
     obtain ⟨x1, hx1⟩ : ∃ x, x = l[i] := ⟨_, rfl⟩
     obtain ⟨x2, hx2⟩ : ∃ x, x = l[q] := ⟨_, rfl⟩
     rw [← hx1] at r1 hL1
     rw [← hx2] at r2 hL2
     have HPA := Lib.hid hpa
     have HQA := Lib.hid hqa
     have H4 := Lib.hid h4
     have HPM := Lib.hid hpm
     have HB := Lib.hid hbr
     have HM1 := Lib.hid hm1
     have HM2 := Lib.hid hm2
     have HL1 := Lib.hid hL1
     have HL2 := Lib.hid hL2
     clear hpa hqa h4 hpm hbr hm1 hm2 hx1 hx2 hL1 hL2 c1 c2 hq
     by_cases h16 : o = 16
     ·have z16 : (o == 16) = true := beq_iff_eq.2 h16
      have hs : ∀ x, seen1 o x = Go.bits .and .i64 x 1 := fun x => by simp [seen1, h16]
      have HS := Lib.hid hs
      clear hs h16
      go_wp2_with fail
      refine (take_A true (some ⟨g, 0, none⟩) o f 0 _ [L.take i] _ HPA.out (fun _ => HM1.out)).mono ?_
      rintro e w5 ⟨rfl, ha5, hg5⟩
      rw [show code true ([L.take i] : List (List Int)).length 0 = 0 from rfl]
      have HA5 := Lib.hid ha5
      have HQ5 := Lib.hid (HQA.out.kept hg5 HNE.out)
      have HB5 := Lib.hid (HB.out.grown hg5 HB.out.size HLP.out)
      clear ha5 hg5
      go_wp2_with fail
      refine (take_A true (some ⟨g', 0, none⟩) o f _ _ lb _ HQ5.out (fun _ => HM2.out)).mono ?_
      rintro e w6 ⟨rfl, ha6, hg6⟩
      rw [code3 _ H4.out]
      have HA6 := Lib.hid (HA5.out.kept hg6 (ne_back HNE.out))
      have HQ6 := Lib.hid ha6
      have HB6 := Lib.hid (HB5.out.grown hg6 HB5.out.size HLQ.out)
      clear ha6 hg6
      go_wp2
      go_roundw
      case rel =>
       refine ⟨i + 1, _, by omega, by go_num, ?_, HQ6.out, by rw [took_len]; exact H4.out, ?_, HB6.out⟩
       ·have := HA6.out
        rw [← HS.out x1] at this
        rw [List.take_succ_eq_append_getElem (by rw [HLl.out]; exact hlt)]
        have e1 : L[i]'(by rw [HLl.out]; exact hlt) = seen1 o x1 := by
         have := HL1.out
         rw [List.getElem?_eq_getElem (by rw [HLl.out]; exact hlt)] at this
         injection this
        rw [e1]
        exact this
       ·rw [← HS.out x2]
        refine (took_perm _ H4.out).trans ?_
        have hlr : i < L.reverse.length := by rw [List.length_reverse, HLl.out]; exact hlt
        rw [List.take_succ_eq_append_getElem hlr]
        have e1 : L.reverse[i] = seen1 o x2 := by
         have := HL2.out
         rw [List.getElem?_eq_getElem hlr] at this
         injection this
        rw [e1]
        exact List.Perm.append_right _ HPM.out
      case measure => simp [intOf]; omega

     ·by_cases h17 : o = 17
      ·have z16 : (o == 16) = false := beq_eq_false_iff_ne.2 h16
       have z17 : (o == 17) = true := beq_iff_eq.2 h17
       have hs : ∀ x, seen1 o x = Go.bits .and .i64 x 1 := fun x => by simp [seen1, h17]
       have HS := Lib.hid hs
       clear hs h16 h17
       go_wp2_with fail
       refine (take_A true (some ⟨g, 0, none⟩) o f 0 _ [L.take i] _ HPA.out (fun _ => HM1.out)).mono ?_
       rintro e w5 ⟨rfl, ha5, hg5⟩
       rw [show code true ([L.take i] : List (List Int)).length 0 = 0 from rfl]
       have HA5 := Lib.hid ha5
       have HQ5 := Lib.hid (HQA.out.kept hg5 HNE.out)
       have HB5 := Lib.hid (HB.out.grown hg5 HB.out.size HLP.out)
       clear ha5 hg5
       go_wp2_with fail
       refine (take_A true (some ⟨g', 0, none⟩) o f _ _ lb _ HQ5.out (fun _ => HM2.out)).mono ?_
       rintro e w6 ⟨rfl, ha6, hg6⟩
       rw [code3 _ H4.out]
       have HA6 := Lib.hid (HA5.out.kept hg6 (ne_back HNE.out))
       have HQ6 := Lib.hid ha6
       have HB6 := Lib.hid (HB5.out.grown hg6 HB5.out.size HLQ.out)
       clear ha6 hg6
       go_wp2
       go_roundw
       case rel =>
        refine ⟨i + 1, _, by omega, by go_num, ?_, HQ6.out, by rw [took_len]; exact H4.out, ?_, HB6.out⟩
        ·have := HA6.out
         rw [← HS.out x1] at this
         rw [List.take_succ_eq_append_getElem (by rw [HLl.out]; exact hlt)]
         have e1 : L[i]'(by rw [HLl.out]; exact hlt) = seen1 o x1 := by
          have := HL1.out
          rw [List.getElem?_eq_getElem (by rw [HLl.out]; exact hlt)] at this
          injection this
         rw [e1]
         exact this
        ·rw [← HS.out x2]
         refine (took_perm _ H4.out).trans ?_
         have hlr : i < L.reverse.length := by rw [List.length_reverse, HLl.out]; exact hlt
         rw [List.take_succ_eq_append_getElem hlr]
         have e1 : L.reverse[i] = seen1 o x2 := by
          have := HL2.out
          rw [List.getElem?_eq_getElem hlr] at this
          injection this
         rw [e1]
         exact List.Perm.append_right _ HPM.out
       case measure => simp [intOf]; omega

      ·have z16 : (o == 16) = false := beq_eq_false_iff_ne.2 h16
       have z17 : (o == 17) = false := beq_eq_false_iff_ne.2 h17
       have hs : ∀ x, seen1 o x = x := fun x => by simp [seen1, h16, h17]
       have HS := Lib.hid hs
       clear hs h16 h17
       go_wp2_with fail
       refine (take_A true (some ⟨g, 0, none⟩) o f 0 _ [L.take i] _ HPA.out (fun _ => HM1.out)).mono ?_
       rintro e w5 ⟨rfl, ha5, hg5⟩
       rw [show code true ([L.take i] : List (List Int)).length 0 = 0 from rfl]
       have HA5 := Lib.hid ha5
       have HQ5 := Lib.hid (HQA.out.kept hg5 HNE.out)
       have HB5 := Lib.hid (HB.out.grown hg5 HB.out.size HLP.out)
       clear ha5 hg5
       go_wp2_with fail
       refine (take_A true (some ⟨g', 0, none⟩) o f _ _ lb _ HQ5.out (fun _ => HM2.out)).mono ?_
       rintro e w6 ⟨rfl, ha6, hg6⟩
       rw [code3 _ H4.out]
       have HA6 := Lib.hid (HA5.out.kept hg6 (ne_back HNE.out))
       have HQ6 := Lib.hid ha6
       have HB6 := Lib.hid (HB5.out.grown hg6 HB5.out.size HLQ.out)
       clear ha6 hg6
       go_wp2
       go_roundw
       case rel =>
        refine ⟨i + 1, _, by omega, by go_num, ?_, HQ6.out, by rw [took_len]; exact H4.out, ?_, HB6.out⟩
        ·have := HA6.out
         rw [← HS.out x1] at this
         rw [List.take_succ_eq_append_getElem (by rw [HLl.out]; exact hlt)]
         have e1 : L[i]'(by rw [HLl.out]; exact hlt) = seen1 o x1 := by
          have := HL1.out
          rw [List.getElem?_eq_getElem (by rw [HLl.out]; exact hlt)] at this
          injection this
         rw [e1]
         exact this
        ·rw [← HS.out x2]
         refine (took_perm _ H4.out).trans ?_
         have hlr : i < L.reverse.length := by rw [List.length_reverse, HLl.out]; exact hlt
         rw [List.take_succ_eq_append_getElem hlr]
         have e1 : L.reverse[i] = seen1 o x2 := by
          have := HL2.out
          rw [List.getElem?_eq_getElem hlr] at this
          injection this
         rw [e1]
         exact List.Perm.append_right _ HPM.out
       case measure => simp [intOf]; omega

    ·have hie : i = l.length := by omega
     have hLi : L.take i = L := List.take_of_length_le (by rw [HLl.out]; omega)
     have hRi : L.reverse.take i = L.reverse := List.take_of_length_le (by rw [List.length_reverse, HLl.out]; omega)
     rw [hLi] at hpa hm1
     rw [hRi] at hpm
     have hpm' : lb.flatten.Perm L := hpm.trans (List.reverse_perm L)
     have hd3 : decide ((i : Int) < (l.length : Int)) = false := decide_eq_false (by omega)
     have HPA := Lib.hid hpa
     have HQA := Lib.hid hqa
     have HB := Lib.hid hbr
     have HM1 := Lib.hid hm1
     have HM2 := Lib.hid hm2
     have e1 : wh true o f [L] k = fold o f L := by
      rw [wh, if_pos rfl, whole_any HF.out (fun l' hl' => by rw [List.mem_singleton.1 hl']; exact HL64.out)]
      simp
     have e2 : wh true o f lb k = fold o f L := by
      rw [wh, if_pos rfl, whole_any HF.out (All64.of_flat (fun x hx => HL64.out x (hpm'.mem_iff.1 hx)))]
      exact fold_perm (red_of 2 o f HF.out) hpm'
     have e3 : pt true o f [L] 0 = fold o f L := by simp [pt, code, sums]
     have e4 : ct true [L] = (l.length : Int) := by simp [ct, cnt, HLl.out]
     have e5 : ct true lb = (l.length : Int) := by rw [ct, if_pos rfl, cnt_flat, hpm'.length_eq, HLl.out]; try rfl
     have e6 : l.length = 0 → fold o f L = f := fun h => by
      have : L = [] := List.length_eq_zero_iff.1 (by rw [HLl.out, h])
      rw [this]; rfl
     have E1 := Lib.hid e1
     have E2 := Lib.hid e2
     have E3 := Lib.hid e3
     have E4 := Lib.hid e4
     have E5 := Lib.hid e5
     have E6 := Lib.hid e6
     have HKK := Lib.hid hk0.2
     clear hpa hqa hpm hpm' hbr hm1 hm2 h4 hie hLi hRi e1 e2 e3 e4 e5 e6
     go_wp2_with fail
     refine (whole_A true _ o f k [L] _ HPA.out (fun _ => HM1.out) HKK.out).mono ?_
     rintro e w6 ⟨rfl, hb6⟩
     rw [E1.out, show er true = 0 from rfl]
     have HB6 := Lib.hid (below_step HB.out hb6)
     have HPA := Lib.hid (HPA.out.below hb6)
     have HQA := Lib.hid (HQA.out.below hb6)
     clear hb6
     go_wp2_with fail
     refine (whole_A true _ o f k lb _ HQA.out (fun _ => HM2.out) HKK.out).mono ?_
     rintro e w7 ⟨rfl, hb7⟩
     rw [E2.out, show er true = 0 from rfl]
     have HB7 := Lib.hid (below_step HB6.out hb7)
     have HPA := Lib.hid (HPA.out.below hb7)
     have HQA := Lib.hid (HQA.out.below hb7)
     clear hb7
     go_wp2_with fail
     refine (part_A true _ o f 0 [L] _ HPA.out (fun _ => HM1.out)).mono ?_
     rintro e w8 ⟨rfl, hb8⟩
     rw [E3.out, show code true ([L] : List (List Int)).length 0 = 0 from rfl]
     have HB8 := Lib.hid (below_step HB7.out hb8)
     have HPA := Lib.hid (HPA.out.below hb8)
     have HQA := Lib.hid (HQA.out.below hb8)
     clear hb8
     obtain ⟨X, hX⟩ : ∃ X, X = fold o f L := ⟨_, rfl⟩
     rw [← hX]
     have HX := Lib.hid hX
     clear hX
     have y1 : (X == X) = true := by simp
     go_wp2_with fail
     refine (count_A true _ o f [L] _ HPA.out (fun _ => HM1.out)).mono ?_
     rintro e w9 ⟨rfl, hb9⟩
     rw [E4.out]
     have HB9 := Lib.hid (below_step HB8.out hb9)
     have HQA := Lib.hid (HQA.out.below hb9)
     clear hb9
     go_wp2_with fail
     refine (count_A true _ o f lb _ HQA.out (fun _ => HM2.out)).mono ?_
     rintro e w10 ⟨rfl, hb10⟩
     rw [E5.out]
     have HB10 := Lib.hid (below_step HB9.out hb10)
     clear hb10
     have y2 : ((l.length : Int) == (l.length : Int)) = true := by simp
     by_cases hz : l.length = 0
     ·have y3 : decide ((l.length : Int) > 0) = false := decide_eq_false (by omega)
      have y4 : (X == f) = true := by rw [HX.out, E6.out hz]; simp
      go_wp2
      go_ret
      exact ⟨rfl, HB10.out⟩
     ·have y3 : decide ((l.length : Int) > 0) = true := decide_eq_true (by omega)
      go_wp2
      go_ret
      exact ⟨rfl, HB10.out⟩
theorem wfu64 {x : Int} (h : (Lit.int .u64 x).wf = true) : 0 ≤ x ∧ x ≤ 18446744073709551615 := by
 simp only [Lit.wf, Bool.and_eq_true, decide_eq_true_eq] at h
 rw [show IntKind.u64.min = 0 from by decide +kernel, show IntKind.u64.max = 18446744073709551615 from by decide +kernel] at h
 exact h
theorem opn_words : Opn Try.prog (Kd.slice 34 (Kd.int .i64)) (fun l => l.length ≤ maxLen ∧ ∀ x ∈ l, (Lit.int .i64 x).wf = true) 32 := opn_slice Try.underlying32 (by kernel_rfl) (opn_int Try.underlying34 (by kernel_rfl))
theorem whole_law (W : World) (o : Int) (h0 : (Lit.int .u8 o).wf = true) (A : Option Addr) (c : Nat) (l : List Int) (hc : l.length ≤ c) (hr : Kd.C (Kd.int .i64) W A l.length l) (hg : l.length ≤ maxLen ∧ ∀ x ∈ l, (Lit.int .i64 x).wf = true) (hb : l.length * 8 ≤ 140737488351232) (k0 : Int) (hk0 : (Lit.int .u64 k0).wf = true) :
  Calls Try.prog 4 #[.int .u8 o, .slice A l.length c, .int .u64 k0] W fun e w' => e = .returned (.bool true) ∧ Below W.heap.size W w' := whole_walk W o h0 A c l hc hr hg hb k0 (wfu64 hk0)
end Go.Proofs.Ytdohoajphknciaa.Agg
