/- Ps, Pr, Wkn, Fo, Fot, Fod, For, Fos, Cvr, Rdp, Rtx, Rpy, Ron, Txi -/
import Derived.Test.YtldjbgonlbmeaaaDoorBsa
import Derived.Test.YtldjbgonlbmeaaaDoorPBx1
import Derived.Test.YtldjbgonlbmeaaaDoorPAx1
import Derived.Laws.Strings
import Derived.Test.YtldjbgonlbmeaaaDoorPBx2
import Derived.Test.YtldjbgonlbmeaaaDoorPAx5
import Derived.Test.YtldjbgonlbmeaaaDoorNm
import Derived.Test.YtldjbgonlbmeaaaDoorKid
import Derived.Test.YtldjbgonlbmeaaaDoorDpp
import Derived.Test.YtldjbgonlbmeaaaDoorPrt
import Derived.Test.YtldjbgonlbmeaaaDoorPra
import Derived.Test.YtldjbgonlbmeaaaDoorPAx6
set_option linter.unusedSimpArgs false
set_option linter.unusedVariables false
section
/- Plain law: what num.Parse tells. -/
set_option linter.unusedSimpArgs false
set_option linter.unusedVariables false
namespace Go.Proofs.YtldjbgonlbmeaaaDoor.Dig
open Go.RowKit Go.Proofs.YtldjbgonlbmeaaaDoor.PA Go.Proofs.YtldjbgonlbmeaaaDoor.PB Go.Proofs.YtldjbgonlbmeaaaDoorW.PrintWords

def W64 (v : Int) : Prop := -9223372036854775808 ≤ v ∧ v ≤ 9223372036854775807
open Classical in
noncomputable def ps (s : List UInt8) : Int × Int := if h : ∃ v, W64 v ∧ s = text v then (Classical.choose h, 0) else (0, 3)
theorem ps_some {v : Int} (h : W64 v) : ps (text v) = (v, 0) := by
 have h2 : ∃ u, W64 u ∧ text v = text u := ⟨v, h, rfl⟩
 unfold ps
 rw [dif_pos h2]
 have := (Classical.choose_spec h2).2
 rw [← text_inj this]
theorem ps_none {s : List UInt8} (h : ¬ ∃ v, W64 v ∧ s = text v) : ps s = (0, 3) := by
 unfold ps
 rw [dif_neg h]
theorem tl_data (x : ByteArray) : x.toList = x.data.toList := Go.ByteArray.toList_eq x
theorem bt_at (x : ByteArray) (i : Nat) (h : i < x.toList.length) : bt x (i : Int) = (x.toList[i].toNat : Int) := by
 have hd := tl_data x
 have hs : i < x.size := by rw [hd] at h; simpa using h
 unfold bt
 rw [dif_pos (by simpa using hs)]
 simp [hd]
 rfl
theorem sz_len (x : ByteArray) : x.size = x.toList.length := by rw [tl_data]; simp
def runD (W : Int) : List UInt8 → Option Int
 | [] => some W
 | c :: r => if isd c = true then runD (wrap64 (wrap64 (W * 10) - (((c.toNat : Int) - 48) % 256))) r else none
theorem runD_all : ∀ (r : List UInt8) (n : Nat), (∀ c ∈ r, isd c = true) → runD (wrap64 (-(n : Int))) r = some (wrap64 (-((r.foldl (fun n c => n * 10 + (c.toNat - 48)) n : Nat) : Int)))
 | [], n, _ => rfl
 | c :: r, n, h => by
  have hc := h c List.mem_cons_self
  rw [runD, if_pos hc, List.foldl_cons, ← runD_all r (n * 10 + (c.toNat - 48)) (fun x hx => h x (List.mem_cons_of_mem _ hx))]
  congr 1
  simp only [isd, Bool.and_eq_true, decide_eq_true_eq] at hc
  unfold wrap64
  omega
theorem runD_none : ∀ (r : List UInt8) (W : Int), (¬ ∀ c ∈ r, isd c = true) → runD W r = none
 | [], W, h => absurd (fun c hc => by cases hc) h
 | c :: r, W, h => by
  rw [runD]
  by_cases hc : isd c = true
  ·rw [if_pos hc]
   refine runD_none r _ (fun q => h (fun x hx => ?_))
   rcases List.mem_cons.1 hx with rfl | hx
   ·exact hc
   ·exact q x hx
  ·rw [if_neg hc]
def finN (x : ByteArray) (neg : Bool) (W : Int) : Option (Int × Int) := if neg = true then ((num_Digits.f W).bind fun t => (if t.toList = x.toList then (some (W, 0)) else (some (0, 3)))) else ((num_Digits.f (wrap64 (-W))).bind fun t => (if t.toList = x.toList then (some (wrap64 (-W), 0)) else (some (0, 3))))
theorem np_l0 (x : ByteArray) (neg : Bool) (hx : x.toList.length ≤ 20) : ∀ (d i k : Nat) (W : Int), i + d = x.toList.length → 2 * d < k → (1 ≤ i ∨ neg = false) → num_Parse.l0 k x W neg (x.size : Int) (i : Int) = match runD W (x.toList.drop i) with | none => some (0, 3) | some V => finN x neg V
 | 0, i, k, W, h, hk, _ => by
  obtain ⟨k, rfl⟩ : ∃ m, k = m + 1 := ⟨k - 1, by omega⟩
  have hz := sz_len x
  unfold num_Parse.l0
  rw [if_neg (by omega), List.drop_eq_nil_of_le (by omega)]
  rfl
 | d + 1, i, k, W, h, hk, hs => by
  obtain ⟨k, rfl⟩ : ∃ m, k = m + 1 + 1 := ⟨k - 2, by omega⟩
  have hz := sz_len x
  have hi : i < x.toList.length := by omega
  have hw : wrap64 ((i : Int) + 1) = ((i + 1 : Nat) : Int) := by unfold wrap64; omega
  have hj : num_Parse.l0 (k + 1 + 1) x W neg (x.size : Int) (i : Int) = num_Parse.j2 (k + 1) x W neg (i : Int) (x.size : Int) (i : Int) false := by
   conv => lhs; unfold num_Parse.l0
   rw [if_pos (by omega)]
   rcases hs with hs | hs
   ·rw [if_neg (by omega)]
   ·split
    ·rw [hs]
    ·rfl
  rw [hj, List.drop_eq_getElem_cons hi, runD]
  unfold num_Parse.j2
  rw [if_neg (by simp), if_pos (by omega), if_pos (by omega), bt_at x i hi, hw]
  have ih := fun V => np_l0 x neg hx d (i + 1) k V (by omega) (by omega) (.inl (by omega))
  by_cases hc : isd x.toList[i] = true
  ·have hc2 := hc
   simp only [isd, Bool.and_eq_true, decide_eq_true_eq] at hc2
   rw [if_pos hc, if_neg (by omega), if_neg (by omega), ih]
  ·rw [if_neg hc]
   simp only [isd, Bool.and_eq_true, decide_eq_true_eq] at hc
   by_cases h1 : (x.toList[i].toNat : Int) < 48
   ·rw [if_pos h1]
   ·rw [if_neg h1, if_pos (by omega)]
theorem w64_rng (z : Int) : W64 (wrap64 z) := by unfold W64 wrap64; omega
theorem dig_f {v : Int} (h : W64 v) : num_Digits.f v = some ⟨(text v).toArray⟩ := by unfold num_Digits.f; exact if_pos h
theorem arr_tl (l : List UInt8) : (⟨l.toArray⟩ : ByteArray).toList = l := by rw [tl_data]
theorem text_ne (v : Int) : text v ≠ [] := fun h => by
 have := dec_pos v.natAbs
 unfold text at h
 split at h
 ·cases h
 ·rw [h] at this; simp at this
theorem text_len {v : Int} (h : W64 v) : (text v).length ≤ 20 := by
 have := dec_len 18 v.natAbs (by unfold W64 at h; omega)
 unfold text
 split <;> simp <;> omega
theorem np_res (x : ByteArray) (neg : Bool) (ds : List UInt8) (hL : x.toList = if neg = true then 45 :: ds else ds) (hn : neg = false → ∀ r, x.toList ≠ 45 :: r) :
  (match runD 0 ds with | none => some (0, 3) | some V => finN x neg V) = some (ps x.toList) := by
 have inv : ∀ v, x.toList = text v → ds = dec v.natAbs ∧ (neg = true ↔ v < 0) := fun v hv => by
  cases neg with
  | true =>
   rw [if_pos rfl] at hL
   rw [hL] at hv
   by_cases h : v < 0
   ·rw [text_neg h] at hv
    exact ⟨(List.cons.inj hv).2, by simp [h]⟩
   ·rw [text_nat h] at hv
    have := (dec_val v.natAbs).2 45 (by rw [← hv]; simp)
    exact absurd this (by decide)
  | false =>
   rw [if_neg (by simp)] at hL
   by_cases h : v < 0
   ·rw [text_neg h] at hv
    exact absurd hv (hn rfl _)
   ·rw [text_nat h] at hv
    exact ⟨by rw [← hL, hv], by simp [h]⟩
 by_cases hd : ∀ c ∈ ds, isd c = true
 ·have hr := runD_all ds 0 hd
  rw [show wrap64 (-((0 : Nat) : Int)) = 0 by unfold wrap64; omega] at hr
  rw [hr]
  show finN x neg (wrap64 (-((dval ds : Nat) : Int))) = _
  unfold finN
  cases neg with
  | true =>
   rw [if_pos rfl, dig_f (w64_rng _), Option.bind_some, arr_tl]
   by_cases ht : text (wrap64 (-((dval ds : Nat) : Int))) = x.toList
   ·rw [if_pos ht, ← ht, ps_some (w64_rng _)]
   ·rw [if_neg ht, ps_none]
    rintro ⟨v, hv, e⟩
    obtain ⟨h1, h2⟩ := inv v e
    have hneg := h2.1 rfl
    apply ht
    rw [e, h1, (dec_val _).1]
    congr 1
    unfold W64 at hv
    unfold wrap64
    omega
  | false =>
   rw [if_neg (by simp), dig_f (w64_rng _), Option.bind_some, arr_tl]
   by_cases ht : text (wrap64 (-(wrap64 (-((dval ds : Nat) : Int))))) = x.toList
   ·rw [if_pos ht, ← ht, ps_some (w64_rng _)]
   ·rw [if_neg ht, ps_none]
    rintro ⟨v, hv, e⟩
    obtain ⟨h1, h2⟩ := inv v e
    have hneg : ¬ v < 0 := fun q => by have := h2.2 q; cases this
    apply ht
    rw [e, h1, (dec_val _).1]
    congr 1
    unfold W64 at hv
    unfold wrap64
    omega
 ·rw [runD_none ds 0 hd, ps_none]
  rintro ⟨v, hv, e⟩
  exact hd (by rw [(inv v e).1]; exact (dec_val _).2)
theorem np_f (x : ByteArray) : num_Parse.f 60 x = some (ps x.toList) := by
 have hz := sz_len x
 unfold num_Parse.f
 by_cases h0 : x.toList = []
 ·rw [if_pos h0, h0, ps_none (fun ⟨v, _, e⟩ => text_ne v e.symm)]
  rfl
 ·rw [if_neg h0]
  by_cases h1 : (x.size : Int) > 20
  ·rw [decide_eq_true h1, ps_none (fun ⟨v, hv, e⟩ => by have := text_len hv; rw [← e] at this; omega)]
   rfl
  ·rw [decide_eq_false h1]
   have hpos : 0 < x.toList.length := List.length_pos_iff.2 h0
   have hj0 : ∀ k, num_Parse.j0 (k + 1) x false = num_Parse.l0 k x 0 ((bt x 0) == 45) (x.size : Int) 0 := fun k => by
    simp only [num_Parse.j0, Bool.false_eq_true, if_false]
    rw [if_pos (by omega)]
   rw [show (60 : Nat) = 59 + 1 from rfl, hj0]
   obtain ⟨c, r, hcr⟩ : ∃ c r, x.toList = c :: r := by
    cases hq : x.toList with
    | nil => exact absurd hq h0
    | cons c r => exact ⟨c, r, rfl⟩
   have hb : bt x 0 = (c.toNat : Int) := by
    have := bt_at x 0 hpos
    simp only [hcr, List.getElem_cons_zero] at this
    exact this
   rw [hb]
   by_cases hc : c = 45
   ·subst hc
    have e1 : (((45 : UInt8).toNat : Int) == 45) = true := by decide
    rw [e1]
    have hj1 : ∀ k, num_Parse.l0 (k + 1) x 0 true (x.size : Int) 0 = num_Parse.j2 k x 0 true 0 (x.size : Int) 0 true := fun k => by
     conv => lhs; unfold num_Parse.l0
     rw [if_pos (by omega), if_pos rfl]
    have hj2 : ∀ k, num_Parse.j2 (k + 1) x 0 true 0 (x.size : Int) 0 true = num_Parse.l0 k x 0 true (x.size : Int) ((1 : Nat) : Int) := fun k => by
     conv => lhs; unfold num_Parse.j2
     rw [if_pos rfl, show wrap64 (0 + 1) = ((1 : Nat) : Int) by unfold wrap64; omega]
    have hj : num_Parse.l0 59 x 0 true (x.size : Int) 0 = num_Parse.l0 57 x 0 true (x.size : Int) ((1 : Nat) : Int) := by
     rw [show (59 : Nat) = 58 + 1 from rfl, hj1, show (58 : Nat) = 57 + 1 from rfl, hj2]
    rw [hj, np_l0 x true (by omega) (x.toList.length - 1) 1 57 0 (by omega) (by omega) (.inl (Nat.le_refl _))]
    rw [show x.toList.drop 1 = r by rw [hcr]; rfl]
    exact np_res x true r (by rw [hcr]; rfl) (fun h => by cases h)
   ·have e1 : (((c.toNat : Int)) == 45) = false := by
     rw [beq_eq_false_iff_ne]
     intro q
     apply hc
     apply UInt8.toNat_inj.1
     show c.toNat = 45
     omega
    rw [e1, show (0 : Int) = ((0 : Nat) : Int) from rfl, np_l0 x false (by omega) x.toList.length 0 59 _ (by omega) (by omega) (.inr rfl), List.drop_zero]
    exact np_res x false x.toList rfl (fun _ r h => by rw [hcr] at h; exact hc (List.cons.inj h).1)
end Go.Proofs.YtldjbgonlbmeaaaDoor.Dig
end
section
/- Plain law: what the document's Parse tells. -/
set_option linter.unusedSimpArgs false
set_option linter.unusedVariables false
namespace Go.Proofs.YtldjbgonlbmeaaaDoor.Dig
open Go.RowKit Go.Proofs.YtldjbgonlbmeaaaDoor.PA Go.Proofs.YtldjbgonlbmeaaaDoor.PB Go.Proofs.YtldjbgonlbmeaaaDoorW.PrintWords

def finR (neg : Bool) (D : Nat) : Int × Int := if neg = true then (if 9223372036854775808 < D then (0, 3) else (-(D : Int), 0)) else (if 9223372036854775807 < D then (0, 3) else ((D : Int), 0))
theorem rp_j4 (k : Nat) (neg : Bool) (D : Nat) (h : D < 18446744073709551616) : (if neg = true then (if (D : Int) > 9223372036854775808 then (reticuleref01_Parse.j4 (k + 1) neg (D : Int) true) else (reticuleref01_Parse.j4 (k + 1) neg (D : Int) false)) else (reticuleref01_Parse.j4 (k + 1) neg (D : Int) (decide ((D : Int) > 9223372036854775807)))) = some (finR neg D) := by
 unfold finR
 cases neg with
 | true =>
  simp only [if_true, reticuleref01_Parse.j4]
  by_cases c : 9223372036854775808 < D
  ·rw [if_pos (by omega), if_pos c]
  ·rw [if_neg (by omega), if_neg c]
   simp only [Bool.false_eq_true, if_false, IntKind.wrap_u64]
   congr 2
   unfold wrap64
   omega
 | false =>
  simp only [Bool.false_eq_true, if_false, reticuleref01_Parse.j4]
  by_cases c : 9223372036854775807 < D
  ·rw [decide_eq_true (by omega), if_pos c]
   rfl
  ·rw [decide_eq_false (by omega), if_neg c]
   simp only [Bool.false_eq_true, if_false]
   congr 2
   unfold wrap64
   omega
theorem rp_l0 (y : ByteArray) (neg : Bool) (hy : y.toList.length ≤ 19) : ∀ (d i k N : Nat), i + d = y.toList.length → d + 2 < k → N < 10 ^ i → reticuleref01_Parse.l0 k y neg (N : Int) (i : Int) = if (∀ c ∈ y.toList.drop i, isd c = true) then some (finR neg ((y.toList.drop i).foldl (fun n c => n * 10 + (c.toNat - 48)) N)) else some (0, 3)
 | 0, i, k, N, h, hk, hN => by
  obtain ⟨k, rfl⟩ : ∃ m, k = m + 1 + 1 := ⟨k - 2, by omega⟩
  have hz := sz_len y
  have hp : 10 ^ i ≤ 10 ^ 19 := Nat.pow_le_pow_right (by decide) (by omega)
  conv => lhs; unfold reticuleref01_Parse.l0
  rw [if_neg (by omega), List.drop_eq_nil_of_le (by omega), if_pos (fun c hc => by cases hc)]
  exact rp_j4 k neg N (by omega)
 | d + 1, i, k, N, h, hk, hN => by
  obtain ⟨k, rfl⟩ : ∃ m, k = m + 1 := ⟨k - 1, by omega⟩
  have hz := sz_len y
  have hi : i < y.toList.length := by omega
  have hw : wrap64 ((i : Int) + 1) = ((i + 1 : Nat) : Int) := by unfold wrap64; omega
  have hp : 10 ^ (i + 1) ≤ 10 ^ 19 := Nat.pow_le_pow_right (by decide) (by omega)
  rw [Nat.pow_succ] at hp
  conv => lhs; unfold reticuleref01_Parse.l0
  rw [if_pos (by omega), if_pos (by omega), bt_at y i hi, hw, List.drop_eq_getElem_cons hi]
  by_cases hc : isd y.toList[i] = true
  ·have hc2 := hc
   simp only [isd, Bool.and_eq_true, decide_eq_true_eq] at hc2
   rw [if_neg (by omega), if_neg (by omega)]
   have hv : IntKind.u64.wrap ((IntKind.u64.wrap ((N : Int) * 10)) + ((((y.toList[i].toNat : Nat) : Int) - 48) % 256)) = ((N * 10 + (y.toList[i].toNat - 48) : Nat) : Int) := by
    rw [IntKind.wrap_u64, IntKind.wrap_u64]
    omega
   rw [hv, rp_l0 y neg hy d (i + 1) k _ (by omega) (by omega) (by rw [Nat.pow_succ]; omega), List.foldl_cons]
   by_cases ha : ∀ c ∈ y.toList.drop (i + 1), isd c = true
   ·rw [if_pos ha, if_pos (fun c hm => (List.mem_cons.1 hm).elim (fun e => by rw [e]; exact hc) (ha c))]
   ·rw [if_neg ha, if_neg (fun q => ha (fun c hm => q c (List.mem_cons_of_mem _ hm)))]
  ·have hn : ¬ ∀ c ∈ y.toList[i] :: y.toList.drop (i + 1), isd c = true := fun q => hc (q _ List.mem_cons_self)
   simp only [isd, Bool.and_eq_true, decide_eq_true_eq] at hc
   by_cases h1 : (y.toList[i].toNat : Int) < 48
   ·rw [if_pos h1, if_neg hn]
   ·rw [if_neg h1, if_pos (by omega), if_neg hn]
theorem rp_res (L ds : List UInt8) (neg : Bool) (hL : L = if neg = true then 45 :: ds else ds) (hn : neg = false → ∀ r, L ≠ 45 :: r) (h0 : 1 ≤ ds.length) (h1 : ds.length ≤ 19) (hh : (∀ c r, ds = c :: r → c.toNat ≠ 48) ∨ L = [48]) :
  (if (∀ c ∈ ds, isd c = true) then some (finR neg (dval ds)) else some (0, 3)) = some (ps L) := by
 have inv : ∀ v, L = text v → ds = dec v.natAbs ∧ (neg = true ↔ v < 0) := fun v hv => by
  cases neg with
  | true =>
   rw [if_pos rfl] at hL
   rw [hL] at hv
   by_cases h : v < 0
   ·rw [text_neg h] at hv
    exact ⟨(List.cons.inj hv).2, by simp [h]⟩
   ·rw [text_nat h] at hv
    have := (dec_val v.natAbs).2 45 (by rw [← hv]; simp)
    exact absurd this (by decide)
  | false =>
   rw [if_neg (by simp)] at hL
   by_cases h : v < 0
   ·rw [text_neg h] at hv
    exact absurd hv (hn rfl _)
   ·rw [text_nat h] at hv
    exact ⟨by rw [← hL, hv], by simp [h]⟩
 by_cases hd : ∀ c ∈ ds, isd c = true
 ·rw [if_pos hd]
  congr 1
  have hdec : dec (dval ds) = ds ∧ (neg = true → dval ds ≠ 0) := by
   rcases hh with hh | hh
   ·obtain ⟨q1, q2⟩ := dec_of (ds.length - 1) ds (by omega) hd hh
    exact ⟨q1, fun _ => q2⟩
   ·cases neg with
    | true => rw [if_pos rfl] at hL; rw [hL] at hh; exact absurd (List.cons.inj hh).1 (by decide)
    | false =>
     rw [if_neg (by simp)] at hL
     rw [← hL, hh]
     exact ⟨by rw [show dval [48] = 0 by decide, dec_small (by decide)]; rfl, fun h => by cases h⟩
  unfold finR
  cases neg with
  | true =>
   rw [if_pos rfl]
   have hz := hdec.2 rfl
   by_cases c : 9223372036854775808 < dval ds
   ·rw [if_pos c, ps_none]
    rintro ⟨v, hv, e⟩
    obtain ⟨k1, _⟩ := inv v e
    rw [k1, (dec_val _).1] at c
    unfold W64 at hv
    omega
   ·rw [if_neg c]
    have e : L = text (-((dval ds : Nat) : Int)) := by
     rw [text_neg (by omega), show (-((dval ds : Nat) : Int)).natAbs = dval ds by omega, hdec.1, hL, if_pos rfl]
    rw [e, ps_some (by unfold W64; omega)]
  | false =>
   rw [if_neg (by simp)]
   by_cases c : 9223372036854775807 < dval ds
   ·rw [if_pos c, ps_none]
    rintro ⟨v, hv, e⟩
    obtain ⟨k1, k2⟩ := inv v e
    have : ¬ v < 0 := fun q => by have := k2.2 q; cases this
    rw [k1, (dec_val _).1] at c
    unfold W64 at hv
    omega
   ·rw [if_neg c]
    have e : L = text ((dval ds : Nat) : Int) := by
     rw [text_nat (by omega), Int.natAbs_natCast, hdec.1, hL, if_neg (by simp)]
    rw [e, ps_some (by unfold W64; omega)]
 ·rw [if_neg hd, ps_none]
  rintro ⟨v, hv, e⟩
  exact hd (by rw [(inv v e).1]; exact (dec_val _).2)
theorem ps_short {L : List UInt8} {neg : Bool} {ds : List UInt8} (hL : L = if neg = true then 45 :: ds else ds) (hn : neg = false → ∀ r, L ≠ 45 :: r) (h : ds.length < 1 ∨ 19 < ds.length) : ps L = (0, 3) := ps_none (fun ⟨v, hv, e⟩ => by
 have l1 := dec_pos v.natAbs
 have l2 := dec_len 18 v.natAbs (by unfold W64 at hv; omega)
 have hds : ds = dec v.natAbs := by
  cases neg with
  | true =>
   rw [if_pos rfl] at hL
   rw [hL] at e
   by_cases h : v < 0
   ·rw [text_neg h] at e
    exact (List.cons.inj e).2
   ·rw [text_nat h] at e
    have := (dec_val v.natAbs).2 45 (by rw [← e]; simp)
    exact absurd this (by decide)
  | false =>
   rw [if_neg (by simp)] at hL
   by_cases h : v < 0
   ·rw [text_neg h] at e
    exact absurd e (hn rfl _)
   ·rw [text_nat h] at e
    rw [← hL, e]
 rw [hds] at h
 omega)
theorem ps_nought {L : List UInt8} {neg : Bool} {ds : List UInt8} (hL : L = if neg = true then 45 :: ds else ds) (hn : neg = false → ∀ r, L ≠ 45 :: r) {r : List UInt8} (hd : ds = 48 :: r) (hone : L ≠ [48]) : ps L = (0, 3) := ps_none (fun ⟨v, hv, e⟩ => by
 have key : ∀ n : Nat, dec n = 48 :: r → n = 0 ∧ r = [] := fun n hn => by
  by_cases q : n = 0
  ·subst q
   rw [dec_small (by decide)] at hn
   exact ⟨rfl, (List.cons.inj hn).2.symm⟩
  ·obtain ⟨c, t, h1, h2⟩ := dec_head n q
   rw [h1] at hn
   exact absurd (by rw [(List.cons.inj hn).1]; rfl) h2
 cases neg with
 | true =>
  rw [if_pos rfl] at hL
  rw [hL] at e
  by_cases h : v < 0
  ·rw [text_neg h] at e
   have := (key v.natAbs ((List.cons.inj e).2.symm.trans hd)).1
   omega
  ·rw [text_nat h] at e
   have := (dec_val v.natAbs).2 45 (by rw [← e]; simp)
   exact absurd this (by decide)
 | false =>
  rw [if_neg (by simp)] at hL
  by_cases h : v < 0
  ·rw [text_neg h] at e
   exact absurd e (hn rfl _)
  ·rw [text_nat h] at e
   have := (key v.natAbs (by rw [← e, hL, hd])).2
   subst this
   exact absurd (show L = [48] by rw [hL, hd]) hone)
theorem rp_j1 (x y : ByteArray) (neg : Bool) (hL : x.toList = if neg = true then 45 :: y.toList else y.toList) (hn : neg = false → ∀ r, x.toList ≠ 45 :: r) (k : Nat) (hk : 50 ≤ k) : reticuleref01_Parse.j1 k x y neg = some (ps x.toList) := by
 obtain ⟨k, rfl⟩ : ∃ m, k = m + 1 + 1 := ⟨k - 2, by omega⟩
 have hz := sz_len y
 have j2t : reticuleref01_Parse.j2 (k + 1) y neg true = some (0, 3) := by simp [reticuleref01_Parse.j2]
 have j2f : reticuleref01_Parse.j2 (k + 1) y neg false = reticuleref01_Parse.l0 k y neg 0 0 := by simp [reticuleref01_Parse.j2]
 simp only [reticuleref01_Parse.j1]
 by_cases h1 : (y.size : Int) < 1
 ·rw [if_pos h1, j2t, ps_short hL hn (.inl (by omega))]
 ·rw [if_neg h1]
  by_cases h2 : (y.size : Int) > 19
  ·rw [if_pos h2, j2t, ps_short hL hn (.inr (by omega))]
  ·rw [if_neg h2, if_pos (by omega)]
   have hpos : 0 < y.toList.length := by omega
   have hb := bt_at y 0 hpos
   rw [show ((0 : Nat) : Int) = 0 from rfl] at hb
   obtain ⟨c, r, hcr⟩ : ∃ c r, y.toList = c :: r := by
    cases hq : y.toList with
    | nil => rw [hq] at hpos; simp at hpos
    | cons c r => exact ⟨c, r, rfl⟩
   have hb2 : bt y 0 = (c.toNat : Int) := by rw [hb]; simp only [hcr, List.getElem_cons_zero]
   have hl0 := rp_l0 y neg (by omega) y.toList.length 0 k 0 (by omega) (by omega) (by decide)
   rw [List.drop_zero, show ((0 : Nat) : Int) = 0 from rfl] at hl0
   rw [hb2]
   by_cases hc : (c.toNat : Int) = 48
   ·have hc' : c = 48 := UInt8.toNat_inj.1 (show c.toNat = 48 by omega)
    rw [if_pos hc]
    by_cases hone : x.toList = [48]
    ·rw [show (x.toList != ([48] : List UInt8)) = false by rw [hone]; rfl, j2f, hl0]
     exact rp_res x.toList y.toList neg hL hn (by omega) (by omega) (.inr hone)
    ·rw [show (x.toList != ([48] : List UInt8)) = true by simpa using hone, j2t, ps_nought hL hn (by rw [hcr, hc']) hone]
   ·rw [if_neg hc, j2f, hl0]
    exact rp_res x.toList y.toList neg hL hn (by omega) (by omega) (.inl (fun d t h => by
     rw [hcr] at h
     rw [← (List.cons.inj h).1]
     omega))
theorem rp_f (x : ByteArray) : reticuleref01_Parse.f 60 x = some (ps x.toList) := by
 have hz := sz_len x
 unfold reticuleref01_Parse.f
 have jf : ∀ k y, reticuleref01_Parse.j0 (k + 1) x y false = reticuleref01_Parse.j1 k x y false := fun k y => by simp [reticuleref01_Parse.j0]
 by_cases h0 : (x.size : Int) > 0
 ·rw [if_pos h0, if_pos (by omega)]
  obtain ⟨c, r, hcr⟩ : ∃ c r, x.toList = c :: r := by
   cases hq : x.toList with
   | nil => rw [hq] at hz; simp only [List.length_nil] at hz; omega
   | cons c r => exact ⟨c, r, rfl⟩
  have hb := bt_at x 0 (by rw [hcr]; simp)
  rw [show ((0 : Nat) : Int) = 0 from rfl] at hb
  have hb2 : bt x 0 = (c.toNat : Int) := by rw [hb]; simp only [hcr, List.getElem_cons_zero]
  rw [hb2]
  by_cases hc : c = 45
  ·subst hc
   rw [show (((45 : UInt8).toNat : Int) == 45) = true by decide]
   have jt : reticuleref01_Parse.j0 (59 + 1) x x true = reticuleref01_Parse.j1 59 x (x.extract 1 x.size) true := by
    simp only [reticuleref01_Parse.j0, if_true]
    rw [if_pos (by omega)]
   rw [show (60 : Nat) = 59 + 1 from rfl, jt]
   refine rp_j1 x _ true ?_ (fun h => by cases h) 59 (by decide)
   have hlen : x.size = r.length + 1 := by rw [hz, hcr]; simp
   rw [if_pos rfl, hcr]
   congr 1
   rw [tl_data] at hcr ⊢
   simp [ByteArray.data_extract, hcr]
   rw [List.take_of_length_le (by omega)]
  ·rw [show ((c.toNat : Int) == 45) = false by
    rw [beq_eq_false_iff_ne]
    intro q
    exact hc (UInt8.toNat_inj.1 (show c.toNat = 45 by omega))]
   rw [show (60 : Nat) = 59 + 1 from rfl, jf]
   exact rp_j1 x x false rfl (fun _ r h => by rw [hcr] at h; exact hc (List.cons.inj h).1) 59 (by decide)
 ·rw [if_neg h0, show (60 : Nat) = 59 + 1 from rfl, jf]
  exact rp_j1 x x false rfl (fun _ r h => by rw [h] at hz; simp at hz; omega) 59 (by decide)
end Go.Proofs.YtldjbgonlbmeaaaDoor.Dig
end
section
/- Plain law: what kind of word a word is; both texts tell the same. -/
set_option linter.unusedSimpArgs false
set_option linter.unusedVariables false
namespace Go.Proofs.YtldjbgonlbmeaaaDoor.F
open Go.RowKit Go.Proofs.YtldjbgonlbmeaaaDoor.PA Go.Proofs.YtldjbgonlbmeaaaDoor.PB Go.Proofs.YtldjbgonlbmeaaaDoor.Nm Go.Proofs.YtldjbgonlbmeaaaDoor.Dig Go.Proofs.YtldjbgonlbmeaaaDoorW.PrintWords Go.Proofs.YtldjbgonlbmeaaaDoorW.PrintLast
def signs : List (List UInt8) := [[43], [45], [42], [47], [37], [38], [124], [94], [61], [60]]
open Classical in
noncomputable def wkd (x : ByteArray) : Int := if (ps x.toList).2 = 0 then 4 else if x.toList ∈ signs then 3 else if nmok x = true then 3 else 0
theorem bt_byte (s : ByteArray) (i : Nat) (h : i < s.size) : bt s (i : Int) = (byte s i : Int) := by
 unfold bt byte
 rw [dif_pos (by simpa using h), dif_pos h]
 rfl
theorem name_l0 (s : ByteArray) (hs : s.size ≤ 8) : ∀ (d i k : Nat), i + d = s.size → d < k → (∀ j, j < i → Nm.gd j (byte s j) = true) → reticuleref04_Name.l0 k s (i : Int) = some (good s)
 | 0, i, k, h, hk, hg => by
  obtain ⟨k, rfl⟩ : ∃ m, k = m + 1 := ⟨k - 1, by omega⟩
  rw [reticuleref04_Name.l0, if_neg (by omega)]
  rw [good_all (fun j hj => hg j (by omega))]
 | d + 1, i, k, h, hk, hg => by
  obtain ⟨k, rfl⟩ : ∃ m, k = m + 1 := ⟨k - 1, by omega⟩
  have hi : i < s.size := by omega
  rw [reticuleref04_Name.l0, if_pos (by omega), if_pos (by omega), bt_byte s i hi]
  have hw : wrap64 ((i : Int) + 1) = ((i + 1 : Nat) : Int) := by unfold wrap64; omega
  rw [hw]
  have next : Nm.gd i (byte s i) = true → reticuleref04_Name.l0 k s ((i + 1 : Nat) : Int) = some (good s) := fun hb =>
   name_l0 s hs d (i + 1) k (by omega) (by omega) (fun j hj => by
    by_cases e : j = i
    ·subst e; exact hb
    ·exact hg j (by omega))
  have stop : Nm.gd i (byte s i) = false → some false = some (good s) := fun hb => by rw [good_bad hi hb]
  generalize byte s i = b at next stop
  unfold Nm.gd at next stop
  have key : ∀ (c : Prop) [Decidable c], (c ↔ (97 ≤ b ∧ b ≤ 122 ∨ 48 ≤ b ∧ b ≤ 57 ∧ 0 < i)) → True := fun _ _ _ => trivial
  clear key
  by_cases h1 : 97 ≤ b
  ·rw [if_pos (by omega), if_pos (by omega)]
   by_cases h2 : b ≤ 122
   ·rw [if_pos (by omega)]
    exact next (by simp; omega)
   ·rw [if_neg (by omega), if_neg (by omega)]
    exact stop (by simp; omega)
  ·rw [if_neg (by omega)]
   by_cases h3 : 48 ≤ b
   ·rw [if_pos (by omega)]
    by_cases h4 : b ≤ 57
    ·rw [if_pos (by omega)]
     by_cases h5 : i = 0
     ·subst h5
      rw [if_pos (by rfl)]
      exact stop (by simp; omega)
     ·rw [if_neg (by omega)]
      exact next (by simp; omega)
    ·rw [if_neg (by omega)]
     exact stop (by simp; omega)
   ·rw [if_neg (by omega)]
    exact stop (by simp; omega)
theorem name_f (s : ByteArray) : reticuleref04_Name.f 20 s = some (nmok s) := by
 unfold reticuleref04_Name.f nmok
 by_cases h1 : s.size < 1
 ·rw [if_pos (by omega), reticuleref04_Name.j0, if_pos rfl]
  rw [decide_eq_false (by omega)]
  rfl
 ·rw [if_neg (by omega), reticuleref04_Name.j0]
  by_cases h8 : s.size > 8
  ·rw [if_pos (by simp; omega), decide_eq_false (by omega)]
   rfl
  ·rw [if_neg (by simp; omega)]
   have h := name_l0 s (by omega) s.size 0 19 (by omega) (by omega) (fun j hj => by omega)
   rw [show ((0 : Nat) : Int) = 0 from rfl] at h
   rw [h, decide_eq_true (by omega)]
   rfl
theorem ev_np (x : ByteArray) : Ev (fun k => num_Parse.f k x) (ps x.toList) := Ev.of (num_Parse.mono x) (np_f x)
theorem ev_rp (x : ByteArray) : Ev (fun k => reticuleref01_Parse.f k x) (ps x.toList) := Ev.of (reticuleref01_Parse.mono x) (rp_f x)
theorem ev_wk (x : ByteArray) (hx : x.size ≤ 9223372036854775807) : Ev (fun k => lex_WordKind.f k x) (wkd x) := by
 have hn : lex_named.f x = some (nmok x) := by unfold lex_named.f; rw [if_pos hx]
 have hj : ∀ (k : Nat) (c : List UInt8), lex_WordKind.j0 (k + 1) x (x.toList == c) = some (if x.toList = c then 3 else if nmok x = true then 3 else 0) := fun k c => by
  rw [lex_WordKind.j0, hn]
  by_cases hc : x.toList = c
  ·rw [if_pos (by simpa using hc), if_pos hc]
  ·rw [if_neg (by simpa using hc), if_neg hc]
   simp only [Option.bind_some]
   split <;> rfl
 have hb := Ev.bind (f := fun k bt => if bt.2 = 0 then some 4 else (if x.toList = ([43] : List UInt8) then (lex_WordKind.j0 k x (x.toList == ([43] : List UInt8))) else (if x.toList = ([45] : List UInt8) then (lex_WordKind.j0 k x (x.toList == ([45] : List UInt8))) else (if x.toList = ([42] : List UInt8) then (lex_WordKind.j0 k x (x.toList == ([42] : List UInt8))) else (if x.toList = ([47] : List UInt8) then (lex_WordKind.j0 k x (x.toList == ([47] : List UInt8))) else (if x.toList = ([37] : List UInt8) then (lex_WordKind.j0 k x (x.toList == ([37] : List UInt8))) else (if x.toList = ([38] : List UInt8) then (lex_WordKind.j0 k x (x.toList == ([38] : List UInt8))) else (if x.toList = ([124] : List UInt8) then (lex_WordKind.j0 k x (x.toList == ([124] : List UInt8))) else (if x.toList = ([94] : List UInt8) then (lex_WordKind.j0 k x (x.toList == ([94] : List UInt8))) else (if x.toList = ([61] : List UInt8) then (lex_WordKind.j0 k x (x.toList == ([61] : List UInt8))) else (lex_WordKind.j0 k x (x.toList == ([60] : List UInt8)))))))))))))
  (r := wkd x) (ev_np x) ?_
 ·exact Ev.congr (fun k => rfl) hb
 ·refine ⟨1, fun k hk => ?_⟩
  obtain ⟨k, rfl⟩ : ∃ m, k = m + 1 := ⟨k - 1, by omega⟩
  simp only [hj]
  unfold wkd signs
  by_cases h0 : (ps x.toList).2 = 0
  ·rw [if_pos h0, if_pos h0]
  ·rw [if_neg h0, if_neg h0]
   simp only [List.mem_cons, List.not_mem_nil, or_false]
   generalize (if nmok x = true then (3 : Int) else 0) = e
   generalize x.toList = y
   by_cases hs : y = [43] ∨ y = [45] ∨ y = [42] ∨ y = [47] ∨ y = [37] ∨ y = [38] ∨ y = [124] ∨ y = [94] ∨ y = [61] ∨ y = [60]
   ·rw [if_pos hs]
    rcases hs with h | h | h | h | h | h | h | h | h | h <;> (rw [h]; simp)
   ·rw [if_neg hs]
    simp only [not_or] at hs
    obtain ⟨n1, n2, n3, n4, n5, n6, n7, n8, n9, n10⟩ := hs
    rw [if_neg n1, if_neg n2, if_neg n3, if_neg n4, if_neg n5, if_neg n6, if_neg n7, if_neg n8, if_neg n9, if_neg n10]
theorem ev_rw (x : ByteArray) : Ev (fun k => reticuleref06_WordKind.f k x) (wkd x) := by
 have hb := Ev.bind (f := fun k bt => if bt.2 = 0 then some 4 else ((reticuleref04_Name.f k x).bind fun t104 => (if t104 = true then (some 3) else (reticuleref06_WordKind.l0 k x (([(⟨#[43]⟩ : ByteArray), (⟨#[45]⟩ : ByteArray), (⟨#[42]⟩ : ByteArray), (⟨#[47]⟩ : ByteArray), (⟨#[37]⟩ : ByteArray), (⟨#[38]⟩ : ByteArray), (⟨#[124]⟩ : ByteArray), (⟨#[94]⟩ : ByteArray), (⟨#[61]⟩ : ByteArray), (⟨#[60]⟩ : ByteArray)] : List ByteArray)) 0))))
  (r := wkd x) (ev_rp x) ?_
 ·exact Ev.congr (fun k => rfl) hb
 ·by_cases h0 : (ps x.toList).2 = 0
  ·refine ⟨0, fun k _ => ?_⟩
   unfold wkd
   simp only [h0, if_true]
  ·have hl : Ev (fun k => reticuleref06_WordKind.l0 k x (([(⟨#[43]⟩ : ByteArray), (⟨#[45]⟩ : ByteArray), (⟨#[42]⟩ : ByteArray), (⟨#[47]⟩ : ByteArray), (⟨#[37]⟩ : ByteArray), (⟨#[38]⟩ : ByteArray), (⟨#[124]⟩ : ByteArray), (⟨#[94]⟩ : ByteArray), (⟨#[61]⟩ : ByteArray), (⟨#[60]⟩ : ByteArray)] : List ByteArray)) 0) (if x.toList ∈ signs then 3 else 0) := by
    refine ⟨20, fun k hk => ?_⟩
    obtain ⟨k, rfl⟩ : ∃ m, k = m + 11 := ⟨k - 11, by omega⟩
    have w1 : wrap64 (0 + 1) = 1 := by unfold wrap64; omega
    have w2 : wrap64 (1 + 1) = 2 := by unfold wrap64; omega
    have w3 : wrap64 (2 + 1) = 3 := by unfold wrap64; omega
    have w4 : wrap64 (3 + 1) = 4 := by unfold wrap64; omega
    have w5 : wrap64 (4 + 1) = 5 := by unfold wrap64; omega
    have w6 : wrap64 (5 + 1) = 6 := by unfold wrap64; omega
    have w7 : wrap64 (6 + 1) = 7 := by unfold wrap64; omega
    have w8 : wrap64 (7 + 1) = 8 := by unfold wrap64; omega
    have w9 : wrap64 (8 + 1) = 9 := by unfold wrap64; omega
    have w10 : wrap64 (9 + 1) = 10 := by unfold wrap64; omega
    have tl : ∀ c : UInt8, (⟨#[c]⟩ : ByteArray).toList = [c] := fun c => by rw [Go.ByteArray.toList_eq]
    unfold signs
    simp only [reticuleref06_WordKind.l0, w1, w2, w3, w4, w5, w6, w7, w8, w9, w10, rdOf, List.length_cons, List.length_nil]
    simp only [List.mem_cons, List.not_mem_nil, or_false]
    generalize x.toList = y
    by_cases hs : y = [43] ∨ y = [45] ∨ y = [42] ∨ y = [47] ∨ y = [37] ∨ y = [38] ∨ y = [124] ∨ y = [94] ∨ y = [61] ∨ y = [60]
    ·rw [if_pos hs]
     rcases hs with h | h | h | h | h | h | h | h | h | h <;> (rw [h]; simp [tl])
    ·rw [if_neg hs]
     simp only [not_or] at hs
     obtain ⟨n1, n2, n3, n4, n5, n6, n7, n8, n9, n10⟩ := hs
     simp [tl, n1, n2, n3, n4, n5, n6, n7, n8, n9, n10]
   have hq := Ev.bind (f := fun k t104 => (if t104 = true then (some 3) else (reticuleref06_WordKind.l0 k x (([(⟨#[43]⟩ : ByteArray), (⟨#[45]⟩ : ByteArray), (⟨#[42]⟩ : ByteArray), (⟨#[47]⟩ : ByteArray), (⟨#[37]⟩ : ByteArray), (⟨#[38]⟩ : ByteArray), (⟨#[124]⟩ : ByteArray), (⟨#[94]⟩ : ByteArray), (⟨#[61]⟩ : ByteArray), (⟨#[60]⟩ : ByteArray)] : List ByteArray)) 0)))
    (r := wkd x) (Ev.of (reticuleref04_Name.mono x) (name_f x)) (by
     unfold wkd
     rw [if_neg h0]
     by_cases hm : nmok x = true
     ·refine ⟨0, fun k _ => ?_⟩
      simp only [hm, if_true]
      split <;> rfl
     ·have : nmok x = false := by simpa using hm
      refine Ev.congr (fun k => ?_) (by simpa only [this, Bool.false_eq_true, if_false] using hl)
      simp only [this, Bool.false_eq_true, if_false])
   refine Ev.congr (fun k => ?_) hq
   simp only [h0, if_false]
end Go.Proofs.YtldjbgonlbmeaaaDoor.F
end
section
/- Forests, and how they stand in a list of forms: plain, no program in sight. -/
set_option linter.unusedSimpArgs false
set_option linter.unusedVariables false
namespace Go.Proofs.YtldjbgonlbmeaaaDoor.F
open Go.Proofs.YtldjbgonlbmeaaaDoor.T (Fm zFm)
inductive Fo
 | nil
 | lf (f : Fm) (r : Fo)
 | br (f : Fm) (ks r : Fo)
def ent (f : Fm) (ks : List Int) : Fm := ⟨f.f0, f.f1, f.f2, ks, f.f4⟩
namespace Fo
def size : Fo → Nat
 | nil => 0
 | lf _ r => r.size + 1
 | br _ ks r => ks.size + r.size + 1
def dep : Fo → Nat
 | nil => 0
 | lf _ r => r.dep
 | br _ ks r => max (ks.dep + 1) r.dep
def pls : Fo → Nat → List Int
 | nil, _ => []
 | lf _ r, n => (n : Int) :: r.pls (n + 1)
 | br _ ks r, n => (n : Int) :: r.pls (n + 1 + ks.size)
def num : Fo → Nat
 | nil => 0
 | lf _ r => r.num + 1
 | br _ _ r => r.num + 1
theorem pls_len : ∀ (F : Fo) (n : Nat), (F.pls n).length = F.num
 | nil, _ => rfl
 | lf _ r, n => by simp [pls, num, pls_len r]
 | br _ ks r, n => by simp [pls, num, pls_len r]
theorem num_le : ∀ (F : Fo), F.num ≤ F.size
 | nil => Nat.le_refl _
 | lf _ r => by have := num_le r; simp [num, size]; omega
 | br _ ks r => by have := num_le r; simp [num, size]; omega
theorem pls_in : ∀ (F : Fo) (n : Nat) (p : Int), p ∈ F.pls n → (n : Int) ≤ p ∧ p < (n + F.size : Nat)
 | nil, _, p, h => by cases h
 | lf _ r, n, p, h => by
  rcases List.mem_cons.1 h with h | h
  ·subst h; simp [size]; omega
  ·have := pls_in r (n + 1) p h; simp [size]; omega
 | br _ ks r, n, p, h => by
  rcases List.mem_cons.1 h with h | h
  ·subst h; simp [size]; omega
  ·have := pls_in r (n + 1 + ks.size) p h; simp [size]; omega
end Fo
def Fl (l : List Fm) : Fo → Nat → Prop
 | .nil, _ => True
 | .lf f r, n => n < l.length ∧ l.getD n zFm = ent f [] ∧ Fl l r (n + 1)
 | .br f ks r, n => n < l.length ∧ l.getD n zFm = ent f (ks.pls (n + 1)) ∧ Fl l ks (n + 1) ∧ Fl l r (n + 1 + ks.size)
theorem Fl.le {l : List Fm} : ∀ {F : Fo} {n : Nat}, Fl l F n → n ≤ l.length → n + F.size ≤ l.length
 | .nil, n, _, h => h
 | .lf _ r, n, h, hn => by have := Fl.le h.2.2 h.1; simp only [Fo.size]; omega
 | .br _ ks r, n, h, hn => by
  have h1 := Fl.le h.2.2.1 h.1
  have := Fl.le h.2.2.2 h1
  simp only [Fo.size]; omega
theorem Fl.congr {l l' : List Fm} (hl : l.length ≤ l'.length) : ∀ {F : Fo} {n : Nat}, Fl l F n → (∀ i, n ≤ i → i < n + F.size → l'.getD i zFm = l.getD i zFm) → Fl l' F n
 | .nil, n, _, _ => trivial
 | .lf _ r, n, h, e => ⟨Nat.lt_of_lt_of_le h.1 hl, (e n (Nat.le_refl _) (by simp only [Fo.size]; omega)).trans h.2.1, Fl.congr hl h.2.2 fun i h1 h2 => e i (by omega) (by simp only [Fo.size]; omega)⟩
 | .br _ ks r, n, h, e => ⟨Nat.lt_of_lt_of_le h.1 hl, (e n (Nat.le_refl _) (by simp only [Fo.size]; omega)).trans h.2.1, Fl.congr hl h.2.2.1 fun i h1 h2 => e i (by omega) (by simp only [Fo.size]; omega), Fl.congr hl h.2.2.2 fun i h1 h2 => e i (by omega) (by simp only [Fo.size]; omega)⟩
def Fo.all (P : Fm → Prop) (Q : Fm → Prop) : Fo → Prop
 | .nil => True
 | .lf f r => P f ∧ r.all P Q
 | .br f ks r => Q f ∧ ks.all P Q ∧ r.all P Q
theorem Fl.at {l : List Fm} {P Q : Fm → Prop} : ∀ {F : Fo} {n : Nat}, Fl l F n → F.all P Q → ∀ i, n ≤ i → i < n + F.size →
  (∃ f, P f ∧ l.getD i zFm = ent f []) ∨ (∃ f ks, Q f ∧ l.getD i zFm = ent f (Fo.pls ks (i + 1)) ∧ Fl l ks (i + 1) ∧ i + 1 + ks.size ≤ n + F.size ∧ ks.all P Q)
 | .nil, n, _, _, i, h1, h2 => by simp only [Fo.size] at h2; omega
 | .lf f r, n, h, ha, i, h1, h2 => by
  by_cases hi : i = n
  ·subst hi; exact Or.inl ⟨f, ha.1, h.2.1⟩
  ·simp only [Fo.size] at h2 ⊢
   rcases Fl.at h.2.2 ha.2 i (by omega) (by omega) with h3 | ⟨g, ks, a, b, c, d, e⟩
   ·exact Or.inl h3
   ·exact Or.inr ⟨g, ks, a, b, c, by omega, e⟩
 | .br f ks r, n, h, ha, i, h1, h2 => by
  simp only [Fo.size] at h2 ⊢
  by_cases hi : i = n
  ·subst hi; exact Or.inr ⟨f, ks, ha.1, h.2.1, h.2.2.1, by omega, ha.2.1⟩
  ·by_cases hk : i < n + 1 + ks.size
   ·rcases Fl.at h.2.2.1 ha.2.1 i (by omega) (by omega) with h3 | ⟨g, ks', a, b, c, d, e⟩
    ·exact Or.inl h3
    ·exact Or.inr ⟨g, ks', a, b, c, by omega, e⟩
   ·rcases Fl.at h.2.2.2 ha.2.2 i (by omega) (by omega) with h3 | ⟨g, ks', a, b, c, d, e⟩
    ·exact Or.inl h3
    ·exact Or.inr ⟨g, ks', a, b, c, by omega, e⟩
end Go.Proofs.YtldjbgonlbmeaaaDoor.F
end
section
/- Plain law: a forest's text, in one line each and laid out. -/
set_option linter.unusedSimpArgs false
set_option linter.unusedVariables false
namespace Go.Proofs.YtldjbgonlbmeaaaDoor.F
open Go.Proofs.YtldjbgonlbmeaaaDoor.T (Fm zFm wone wkids flatL lineL nst fstk frk fr oneS)
open Go.Proofs.YtldjbgonlbmeaaaDoor.Dig (text)
def leafT (f : Fm) : List UInt8 := if f.f0 = 4 then text f.f2 else f.f1.data.toList
def IsLeaf (f : Fm) : Prop := f.f0 = 3 ∨ f.f0 = 4
def IsBr (f : Fm) : Prop := f.f0 = 1
namespace Fo
def tx : Fo → Bool → List UInt8
 | nil, _ => []
 | lf f r, first => (if first then [] else [32]) ++ leafT f ++ r.tx false
 | br _ ks r, first => (if first then [] else [32]) ++ [40] ++ ks.tx true ++ [41] ++ r.tx false
def pl : Fo → List UInt8
 | nil => []
 | lf f r => leafT f ++ [10] ++ r.pl
 | br _ ks r => [40] ++ ks.tx true ++ [41] ++ [10] ++ r.pl
def py : Fo → Nat → Bool → Bool → List UInt8
 | nil, _, _, _ => []
 | lf f r, deep, first, seen => (if seen then lineL deep else if first then [] else [32]) ++ leafT f ++ r.py deep false seen
 | br _ ks r, deep, _, _ => lineL deep ++ ([40] ++ ks.py (deep + 1) true false ++ [41]) ++ r.py deep false true
def yl : Fo → List UInt8
 | nil => []
 | lf f r => leafT f ++ [10] ++ r.yl
 | br _ ks r => [40] ++ ks.py 1 true false ++ [41] ++ [10] ++ r.yl
def lead : Fo → Nat
 | lf _ r => r.lead + 1
 | _ => 0
theorem lead_le : ∀ F : Fo, F.lead ≤ F.num
 | nil => Nat.le_refl _
 | lf _ r => by have := lead_le r; simp [lead, num]; omega
 | br _ _ r => by simp [lead]
theorem py_flat : ∀ (F : Fo) (deep : Nat) (first : Bool), F.lead = F.num → F.py deep first false = F.tx first
 | nil, _, _, _ => rfl
 | lf _ r, deep, first, h => by
  simp only [lead, num] at h
  simp only [py, tx, py_flat r deep false (by omega)]
  rfl
 | br _ _ r, deep, first, h => by simp only [lead, num] at h; omega
end Fo
theorem ent_f (f : Fm) (ks : List Int) : (ent f ks).f0 = f.f0 ∧ (ent f ks).f1 = f.f1 ∧ (ent f ks).f2 = f.f2 ∧ (ent f ks).f3 = ks ∧ (ent f ks).f4 = f.f4 := ⟨rfl, rfl, rfl, rfl, rfl⟩
theorem wone_leaf {l : List Fm} {f : Fm} {n d left : Nat} {out : List UInt8} (h : l.getD n zFm = ent f []) (hf : IsLeaf f) (hd : 1 ≤ d) (hl : 1 ≤ left) : wone l d (n : Int) left out = (true, left - 1, out ++ leafT f) := by
 obtain ⟨d, rfl⟩ : ∃ m, d = m + 1 := ⟨d - 1, by omega⟩
 rw [wone, if_neg (by omega)]
 simp only [Int.toNat_natCast, h]
 rw [(ent_f f []).1, (ent_f f []).2.1, (ent_f f []).2.2.1]
 unfold leafT
 rcases hf with e | e
 ·rw [if_neg (by omega), if_pos e, if_neg (by omega)]
 ·rw [if_pos e, if_pos e]
theorem wkids_fo {l : List Fm} : ∀ (F : Fo) (n : Nat) (at_ : Int) (d left : Nat) (out : List UInt8) (first : Bool), Fl l F n → F.all IsLeaf IsBr → at_ < n → n ≤ l.length → F.size ≤ d → F.size ≤ left →
  wkids (wone l d) l.length at_ (F.pls n) first left out = (true, left - F.size, out ++ F.tx first ++ [41])
 | .nil, n, at_, d, left, out, first, _, _, _, _, _, _ => by simp [Fo.pls, Fo.size, Fo.tx, wkids]
 | .lf f r, n, at_, d, left, out, first, h, ha, hn, hnl, hd, hl => by
  simp only [Fo.size] at hd hl
  obtain ⟨h1, h2, h3⟩ := h
  rw [Fo.pls, wkids, if_neg (by omega), wone_leaf h2 ha.1 (by omega) (by omega), if_pos rfl]
  simp only
  rw [wkids_fo r (n + 1) at_ d (left - 1) _ false h3 ha.2 (by omega) (by omega) (by omega) (by omega)]
  simp only [Fo.size, Fo.tx]
  refine Prod.ext rfl (Prod.ext (by simp only; omega) ?_)
  cases first <;> simp
 | .br f ks r, n, at_, d, left, out, first, h, ha, hn, hnl, hd, hl => by
  simp only [Fo.size] at hd hl
  obtain ⟨h1, h2, h3, h4⟩ := h
  have hle := h3.le h1
  obtain ⟨d, rfl⟩ : ∃ m, d = m + 1 := ⟨d - 1, by omega⟩
  have hb : ∀ out, wone l (d + 1) (n : Int) left out = (true, left - 1 - ks.size, out ++ [40] ++ ks.tx true ++ [41]) := fun out => by
   rw [wone, if_neg (by omega)]
   simp only [Int.toNat_natCast, h2]
   rw [(ent_f f _).1, (ent_f f _).2.2.2.1, if_neg (by have := ha.1; unfold IsBr at this; omega), if_neg (by have := ha.1; unfold IsBr at this; omega), if_pos (show f.f0 = 1 from ha.1)]
   rw [wkids_fo ks (n + 1) (n : Int) d (left - 1) _ true h3 ha.2.1 (by omega) (by omega) (by omega) (by omega)]
  rw [Fo.pls, wkids, if_neg (by omega), hb, if_pos rfl]
  simp only
  rw [wkids_fo r (n + 1 + ks.size) at_ (d + 1) _ _ false h4 ha.2.2 (by omega) hle (by omega) (by omega)]
  simp only [Fo.size, Fo.tx]
  refine Prod.ext rfl (Prod.ext (by simp only; omega) ?_)
  cases first <;> simp
theorem flat_lf {l : List Fm} {f : Fm} {r : Fo} {n : Nat} (h : Fl l (.lf f r) n) (ha : IsLeaf f) : flatL l (n : Int) = leafT f := by
 have h1 := h.1
 unfold flatL oneS
 rw [if_neg (by omega), wone_leaf h.2.1 ha (by omega) (by omega), if_pos rfl]
 simp
theorem flat_br {l : List Fm} {f : Fm} {ks r : Fo} {n : Nat} (h : Fl l (.br f ks r) n) (hf : IsBr f) (ha : ks.all IsLeaf IsBr) (hl : l.length ≤ 400) : flatL l (n : Int) = [40] ++ ks.tx true ++ [41] := by
 obtain ⟨h1, h2, h3, h4⟩ := h
 have hle := h3.le h1
 unfold flatL oneS
 have hw : wone l l.length (n : Int) 400 [] = (true, 400 - 1 - ks.size, [] ++ [40] ++ ks.tx true ++ [41]) := by
  obtain ⟨d, hd⟩ : ∃ m, l.length = m + 1 := ⟨l.length - 1, by omega⟩
  rw [hd, wone, if_neg (by omega)]
  simp only [Int.toNat_natCast, h2]
  rw [(ent_f f _).1, (ent_f f _).2.2.2.1, if_neg (by unfold IsBr at hf; omega), if_neg (by unfold IsBr at hf; omega), if_pos (show f.f0 = 1 from hf)]
  rw [wkids_fo ks (n + 1) (n : Int) d (400 - 1) _ true h3 ha (by omega) (by omega) (by omega) (by omega)]
 rw [if_neg (by omega), hw, if_pos rfl]
 simp
theorem pl_fo {l : List Fm} (hl : l.length ≤ 400) : ∀ (F : Fo) (n : Nat), Fl l F n → F.all IsLeaf IsBr → ((F.pls n).flatMap fun t => flatL l t ++ [10]) = F.pl
 | .nil, _, _, _ => rfl
 | .lf f r, n, h, ha => by
  rw [Fo.pls, List.flatMap_cons, flat_lf h ha.1, pl_fo hl r (n + 1) h.2.2 ha.2, Fo.pl]
 | .br f ks r, n, h, ha => by
  rw [Fo.pls, List.flatMap_cons, flat_br h ha.1 ha.2.1 hl, pl_fo hl r _ h.2.2.2 ha.2.2, Fo.pl]
theorem nst_lf {l : List Fm} {f : Fm} {n : Nat} (h : l.getD n zFm = ent f []) (ha : IsLeaf f) : nst l (n : Int) = false := by
 unfold nst
 rw [Int.toNat_natCast, h, (ent_f f []).1]
 have := ha
 unfold IsLeaf at this
 rcases this with e | e <;> rw [e] <;> rfl
theorem nst_br {l : List Fm} {f : Fm} {ks : List Int} {n : Nat} (h : l.getD n zFm = ent f ks) (ha : IsBr f) : nst l (n : Int) = true := by
 unfold nst
 rw [Int.toNat_natCast, h, (ent_f f ks).1, ha]
 rfl
theorem fstk_fo {l : List Fm} : ∀ (F : Fo) (n : Nat), Fl l F n → F.all IsLeaf IsBr → fstk l (F.pls n) = F.lead
 | .nil, _, _, _ => rfl
 | .lf f r, n, h, ha => by
  rw [Fo.pls, fstk, if_neg (by rw [nst_lf h.2.1 ha.1]; decide), fstk_fo r (n + 1) h.2.2 ha.2, Fo.lead]
 | .br f ks r, n, h, ha => by
  rw [Fo.pls, fstk, if_pos (nst_br h.2.1 ha.1)]; rfl
theorem fr_lf {l : List Fm} {f : Fm} {r : Fo} {n d deep : Nat} (h : Fl l (.lf f r) n) (ha : IsLeaf f) (hd : 1 ≤ d) : fr l d (n : Int) deep = leafT f := by
 obtain ⟨d, rfl⟩ : ∃ m, d = m + 1 := ⟨d - 1, by omega⟩
 rw [fr, Int.toNat_natCast, h.2.1, (ent_f f _).2.2.2.1, if_pos (show fstk l [] = ([] : List Int).length from rfl), flat_lf h ha]
theorem frk_fo {l : List Fm} (hl : l.length ≤ 400) : ∀ (F : Fo) (n d deep i first : Nat) (seen : Bool), Fl l F n → F.all IsLeaf IsBr → F.size ≤ d → (seen = true ∧ first ≤ i ∨ seen = false ∧ first = i + F.lead) →
  frk (fun k => fr l d k (deep + 1)) l deep first i (F.pls n) = F.py deep (i == 0) seen
 | .nil, n, d, deep, i, first, seen, _, _, _, _ => rfl
 | .lf f r, n, d, deep, i, first, seen, h, ha, hd, hs => by
  simp only [Fo.size, Fo.lead] at hd hs
  rw [Fo.pls, frk, frk_fo hl r (n + 1) d deep (i + 1) first seen h.2.2 ha.2 (by omega) (hs.imp (fun q => ⟨q.1, by omega⟩) (fun q => ⟨q.1, by omega⟩)), Fo.py]
  have e0 : (i + 1 == 0) = false := by simp
  rw [e0]
  congr 1
  rcases hs with ⟨e, hs⟩ | ⟨e, hs⟩
  ·rw [if_neg (by omega), e, fr_lf h ha.1 (by omega)]; rfl
  ·rw [if_pos (by omega), e, flat_lf h ha.1]
   by_cases hi : i = 0
   ·subst hi; rfl
   ·have : (i == 0) = false := by simpa using hi
    rw [if_pos (by omega), this]; rfl
 | .br f ks r, n, d, deep, i, first, seen, h, ha, hd, hs => by
  simp only [Fo.size, Fo.lead] at hd hs
  obtain ⟨d, rfl⟩ : ∃ m, d = m + 1 := ⟨d - 1, by omega⟩
  have hle := h.2.2.1.le h.1
  have hb : fr l (d + 1) (n : Int) (deep + 1) = [40] ++ ks.py (deep + 1) true false ++ [41] := by
   rw [fr, Int.toNat_natCast, h.2.1, (ent_f f _).2.2.2.1, fstk_fo ks (n + 1) h.2.2.1 ha.2.1, Fo.pls_len]
   by_cases e : ks.lead = ks.num
   ·rw [if_pos e, flat_br h ha.1 ha.2.1 hl, Fo.py_flat ks _ _ e]
   ·rw [if_neg e, frk_fo hl ks (n + 1) d (deep + 1) 0 ks.lead false h.2.2.1 ha.2.1 (by omega) (Or.inr ⟨rfl, by omega⟩)]
    rfl
  rw [Fo.pls, frk, frk_fo hl r _ (d + 1) deep (i + 1) first true h.2.2.2 ha.2.2 (by omega) (Or.inl ⟨rfl, by omega⟩), if_neg (by omega), hb, Fo.py]
  have e0 : (i + 1 == 0) = false := by simp
  rw [e0]
theorem yl_fo {l : List Fm} (hl : l.length ≤ 400) : ∀ (F : Fo) (n d : Nat), Fl l F n → F.all IsLeaf IsBr → F.size ≤ d → ((F.pls n).flatMap fun t => fr l d t 1 ++ [10]) = F.yl
 | .nil, _, _, _, _, _ => rfl
 | .lf f r, n, d, h, ha, hd => by
  simp only [Fo.size] at hd
  rw [Fo.pls, List.flatMap_cons, fr_lf h ha.1 (by omega), yl_fo hl r (n + 1) d h.2.2 ha.2 (by omega), Fo.yl]
 | .br f ks r, n, d, h, ha, hd => by
  simp only [Fo.size] at hd
  obtain ⟨d, rfl⟩ : ∃ m, d = m + 1 := ⟨d - 1, by omega⟩
  have hb : fr l (d + 1) (n : Int) 1 = [40] ++ ks.py 1 true false ++ [41] := by
   rw [fr, Int.toNat_natCast, h.2.1, (ent_f f _).2.2.2.1, fstk_fo ks (n + 1) h.2.2.1 ha.2.1, Fo.pls_len]
   by_cases e : ks.lead = ks.num
   ·rw [if_pos e, flat_br h ha.1 ha.2.1 hl, Fo.py_flat ks _ _ e]
   ·rw [if_neg e, frk_fo hl ks (n + 1) d 1 0 ks.lead false h.2.2.1 ha.2.1 (by omega) (Or.inr ⟨rfl, by omega⟩)]
    rfl
  rw [Fo.pls, List.flatMap_cons, hb, yl_fo hl r _ (d + 1) h.2.2.2 ha.2.2 (by omega), Fo.yl]
end Go.Proofs.YtldjbgonlbmeaaaDoor.F
end
section
/- Plain law: how deep a forest is. -/
set_option linter.unusedSimpArgs false
set_option linter.unusedVariables false
namespace Go.Proofs.YtldjbgonlbmeaaaDoor.F
open Go.Proofs.YtldjbgonlbmeaaaDoor.T (Fm zFm dk dstep dps dtop depth kd dk_len dk_lens dps_len kd_lt)
def mxd (D : List Int) (m : Int) (ps : List Int) : Int := ps.foldl (fun m t => max m (D.getD t.toNat 0)) m
theorem mxd_max (D : List Int) : ∀ (ps : List Int) (m : Int), 0 ≤ m → mxd D m ps = max m (mxd D 0 ps)
 | [], m, h => by simp only [mxd, List.foldl_nil]; omega
 | p :: ps, m, h => by
  have h1 := mxd_max D ps (max m (D.getD p.toNat 0)) (by omega)
  have h2 := mxd_max D ps (max 0 (D.getD p.toNat 0)) (by omega)
  simp only [mxd, List.foldl_cons] at h1 h2 ⊢
  omega
theorem mxd_congr {D D' : List Int} : ∀ {ps : List Int} (m : Int), (∀ p ∈ ps, D.getD p.toNat 0 = D'.getD p.toNat 0) → mxd D m ps = mxd D' m ps
 | [], m, _ => rfl
 | p :: ps, m, h => by
  have h1 := mxd_congr (D := D) (D' := D') (ps := ps) (max m (D.getD p.toNat 0)) (fun q hq => h q (List.mem_cons_of_mem _ hq))
  have h0 := h p (List.mem_cons_self ..)
  simp only [mxd, List.foldl_cons] at h1 ⊢
  rw [h1, h0]
theorem dk_at (i k : Nat) (D : List Int) (j : Nat) : (dk i D k).getD j 0 = if j = i ∧ i < D.length then max (D.getD i 0) (D.getD k 0) else D.getD j 0 := by
 unfold dk
 simp only [List.getD_eq_getElem?_getD, List.getElem?_set]
 by_cases h : i = j
 ·subst h
  by_cases h2 : i < D.length
  ·simp [h2]
  ·simp [h2, List.getElem?_eq_none (Nat.le_of_not_lt h2)]
 ·rw [if_neg h, if_neg (fun e => h e.1.symm)]
theorem dks_at (i : Nat) : ∀ (ks : List Nat) (D : List Int), i < D.length → (∀ k ∈ ks, i < k) → (ks.foldl (dk i) D).getD i 0 = mxd D (D.getD i 0) (ks.map fun (k : Nat) => (k : Int))
 | [], D, _, _ => rfl
 | k :: ks, D, hi, hk => by
  have hik := hk k (List.mem_cons_self ..)
  have hks := fun q hq => hk q (List.mem_cons_of_mem _ hq)
  rw [List.foldl_cons, dks_at i ks (dk i D k) (by rw [dk_len]; exact hi) hks, dk_at, if_pos ⟨rfl, hi⟩]
  rw [mxd_congr (D := dk i D k) (D' := D)]
  ·simp only [List.map_cons, mxd, List.foldl_cons, Int.toNat_natCast]
  ·intro p hp
   obtain ⟨q, hq, rfl⟩ := List.mem_map.1 hp
   rw [Int.toNat_natCast, dk_at, if_neg]
   have := hks q hq
   omega
theorem dks_else (i : Nat) : ∀ (ks : List Nat) (D : List Int) (j : Nat), j ≠ i → (ks.foldl (dk i) D).getD j 0 = D.getD j 0
 | [], D, j, _ => rfl
 | k :: ks, D, j, hj => by rw [List.foldl_cons, dks_else i ks _ j hj, dk_at, if_neg (fun e => hj e.1)]
theorem set_at (D : List Int) (i j : Nat) (v : Int) : (D.set i v).getD j 0 = if j = i ∧ i < D.length then v else D.getD j 0 := by
 simp only [List.getD_eq_getElem?_getD, List.getElem?_set]
 by_cases h : i = j
 ·subst h
  by_cases h2 : i < D.length
  ·simp [h2]
  ·simp [h2, List.getElem?_eq_none (Nat.le_of_not_lt h2)]
 ·rw [if_neg h, if_neg (fun e => h e.1.symm)]
theorem dstep_else (l : List Fm) (D : List Int) (i j : Nat) (h : j ≠ i) : (dstep l D i).getD j 0 = D.getD j 0 := by
 unfold dstep
 split
 ·rw [set_at, if_neg (fun e => h e.1), dks_else i _ D j h]
 ·rfl
theorem kd_fo {l : List Fm} {i : Nat} {ps : List Int} (hk : (l.getD i zFm).f3 = ps) (h : ∀ p ∈ ps, (i : Int) < p ∧ p < (l.length : Int)) : (kd l i).map (fun (k : Nat) => (k : Int)) = ps := by
 unfold kd
 rw [hk, List.filter_eq_self.2 (fun p hp => by have := h p hp; simpa using this), List.map_map]
 conv => rhs; rw [← List.map_id ps]
 refine List.map_congr_left fun p hp => ?_
 have := h p hp
 simp only [Function.comp, id]
 omega
theorem dps_fo {l : List Fm} : ∀ (j : Nat), j ≤ l.length → (∀ p, p + j < l.length → (dps l j).getD p 0 = 0) ∧ ∀ (F : Fo) (n : Nat), Fl l F n → F.all IsLeaf IsBr → l.length ≤ n + j → n ≤ l.length → mxd (dps l j) 0 (F.pls n) = min (F.dep : Int) 13
 | 0, _ => by
  have h0 : ∀ p, (dps l 0).getD p 0 = 0 := fun p => by
   show (List.replicate l.length (0 : Int)).getD p 0 = 0
   rw [List.getD_eq_getElem?_getD]
   by_cases h : p < l.length
   ·simp [h]
   ·rw [List.getElem?_eq_none (by simp; omega)]; rfl
  refine ⟨fun p _ => h0 p, fun F n h ha hn hnl => ?_⟩
  have hle := h.le hnl
  cases F with
  | nil => rfl
  | lf f r => simp only [Fo.size] at hle; omega
  | br f ks r => simp only [Fo.size] at hle; omega
 | j + 1, hj => by
  obtain ⟨i0, ih⟩ := dps_fo (l := l) j (by omega)
  have hst : dps l (j + 1) = dstep l (dps l j) (l.length - 1 - j) := rfl
  have hlen := dps_len l j
  refine ⟨fun p hp => ?_, fun F n h ha hn hnl => ?_⟩
  ·rw [hst, dstep_else _ _ _ _ (by omega)]
   exact i0 p (by omega)
  ·-- behind the form whose turn it is nothing changes
   have far : ∀ (G : Fo) (m : Nat), Fl l G m → G.all IsLeaf IsBr → l.length ≤ m + j → m ≤ l.length → mxd (dps l (j + 1)) 0 (G.pls m) = min (G.dep : Int) 13 := fun G m hg hga hm hml => by
    rw [hst, mxd_congr (D' := dps l j), ih G m hg hga hm hml]
    intro p hp
    have := G.pls_in m p hp
    exact dstep_else _ _ _ _ (by omega)
   by_cases hnj : l.length ≤ n + j
   ·exact far F n h ha hnj hnl
   ·have hn' : l.length - 1 - j = n := by omega
    rw [hn'] at hst
    have hz := i0 n (by omega)
    cases F with
    | nil => rfl
    | lf f r =>
     have hr := far r (n + 1) h.2.2 ha.2 (by omega) (by omega)
     have hv : (dps l (j + 1)).getD n 0 = 0 := by
      rw [hst]
      unfold dstep
      rw [h.2.1, (ent_f f _).1, if_neg (by have := ha.1; unfold IsLeaf at this; omega)]
      exact hz
     have := mxd_max (dps l (j + 1)) (r.pls (n + 1)) (max 0 0) (by omega)
     simp only [Fo.pls, Fo.dep]
     unfold mxd at this hr ⊢
     rw [List.foldl_cons, Int.toNat_natCast, hv, this, hr]
     omega
    | br f ks r =>
     have hks := h.2.2.1.le h.1
     have hr := far r (n + 1 + ks.size) h.2.2.2 ha.2.2 (by omega) (by omega)
     have hk := ih ks (n + 1) h.2.2.1 ha.2.1 (by omega) (by omega)
     have hv : (dps l (j + 1)).getD n 0 = min ((ks.dep : Int) + 1) 13 := by
      rw [hst]
      unfold dstep
      rw [h.2.1, (ent_f f _).1, if_pos (show f.f0 = 1 from ha.1), set_at, if_pos ⟨rfl, by rw [dk_lens, hlen]; omega⟩]
      rw [dks_at n _ _ (by rw [hlen]; omega) (fun k hk => (kd_lt hk).1), hz, kd_fo (ps := ks.pls (n + 1)) (by rw [h.2.1]; rfl), hk]
      ·omega
      ·intro p hp
       have := ks.pls_in (n + 1) p hp
       omega
     have := mxd_max (dps l (j + 1)) (r.pls (n + 1 + ks.size)) (max 0 (min ((ks.dep : Int) + 1) 13)) (by omega)
     simp only [Fo.pls, Fo.dep]
     unfold mxd at this hr ⊢
     rw [List.foldl_cons, Int.toNat_natCast, hv, this, hr]
     omega
theorem dtop_mxd (n : Nat) (D : List Int) : ∀ (ps : List Int) (m : Int), (∀ p ∈ ps, 0 ≤ p ∧ p < (n : Int)) → ps.foldl (dtop n D) m = mxd D m ps
 | [], m, _ => rfl
 | p :: ps, m, h => by
  have h0 := h p (List.mem_cons_self ..)
  have e : dtop n D m p = max m (D.getD p.toNat 0) := by unfold dtop; rw [if_pos h0]
  rw [List.foldl_cons, dtop_mxd n D ps _ (fun q hq => h q (List.mem_cons_of_mem _ hq)), e]
  rfl
theorem depth_fo {l : List Fm} {F : Fo} (h : Fl l F 0) (ha : F.all IsLeaf IsBr) : depth l (F.pls 0) = min (F.dep : Int) 13 := by
 have hle := h.le (Nat.zero_le _)
 unfold depth
 rw [dtop_mxd]
 ·exact (dps_fo l.length (Nat.le_refl _)).2 F 0 h ha (by omega) (Nat.zero_le _)
 ·intro p hp
  have := F.pls_in 0 p hp
  omega
end Go.Proofs.YtldjbgonlbmeaaaDoor.F
end
section
/- Plain law: a forest that stands is right; Print and Pretty tell its text. -/
set_option linter.unusedSimpArgs false
set_option linter.unusedVariables false
namespace Go.Proofs.YtldjbgonlbmeaaaDoor.F
open Go.RowKit Go.Proofs.YtldjbgonlbmeaaaDoor.PA Go.Proofs.YtldjbgonlbmeaaaDoor.PB Go.Proofs.YtldjbgonlbmeaaaDoor.T Go.Proofs.YtldjbgonlbmeaaaDoorW.PrintWords Go.Proofs.YtldjbgonlbmeaaaDoorW.PrintLast
def LeafOk (f : Fm) : Prop := (f.f0 = 3 ∧ f.f2 = 0 ∧ wkd f.f1 = 3 ∧ f.f1.size ≤ 16777216) ∨ (f.f0 = 4 ∧ f.f1 = ⟨#[]⟩ ∧ -9223372036854775808 ≤ f.f2 ∧ f.f2 ≤ 9223372036854775807)
def BrOk (f : Fm) : Prop := f.f0 = 1 ∧ f.f1 = ⟨#[]⟩ ∧ f.f2 = 0
theorem LeafOk.is {f : Fm} (h : LeafOk f) : IsLeaf f := h.imp (fun q => q.1) (fun q => q.1)
theorem BrOk.is {f : Fm} (h : BrOk f) : IsBr f := h.1
theorem Fo.all.imp {P P' Q Q' : Fm → Prop} (hp : ∀ f, P f → P' f) (hq : ∀ f, Q f → Q' f) : ∀ {F : Fo}, F.all P Q → F.all P' Q'
 | .nil, _ => trivial
 | .lf f r, h => ⟨hp f h.1, Fo.all.imp hp hq h.2⟩
 | .br f ks r, h => ⟨hq f h.1, Fo.all.imp hp hq h.2.1, Fo.all.imp hp hq h.2.2⟩
theorem Fo.all.is {F : Fo} (h : F.all LeafOk BrOk) : F.all IsLeaf IsBr := h.imp (fun _ q => q.is) (fun _ q => q.is)
theorem nil_toList : (⟨#[]⟩ : ByteArray).toList = ([] : List UInt8) := by rw [Go.ByteArray.toList_eq]
theorem alone_leaf {f : Fm} (h : LeafOk f) : Ev (fun k => tree_alone.f k f.f0 f.f1 f.f2 [] f.f4) true := by
 rcases h with ⟨h0, h2, h1, hs⟩ | ⟨h0, h1, _⟩
 ·have hw := ev_wk f.f1 (by omega)
  refine Ev.congr (f := fun k => (lex_WordKind.f k f.f1).bind fun t107 => some (t107 == 3)) (fun k => ?_) (Ev.bind (f := fun _ t107 => some (t107 == 3)) hw ?_)
  ·unfold tree_alone.f
   rw [if_neg (by omega), if_pos h0, if_pos h2, if_pos (by rfl)]
  ·rw [h1]
   exact Ev.now _
 ·refine Ev.congr (f := fun k => some true) (fun k => ?_) (Ev.now _)
  unfold tree_alone.f
  rw [if_neg (by omega), if_neg (by omega), if_pos h0, h1, if_pos nil_toList]
  rfl
theorem alone_br {f : Fm} (h : BrOk f) (ks : List Int) : Ev (fun k => tree_alone.f k f.f0 f.f1 f.f2 ks f.f4) true := by
 obtain ⟨h0, h1, h2⟩ := h
 refine Ev.congr (f := fun k => some true) (fun k => ?_) (Ev.now _)
 unfold tree_alone.f
 rw [if_pos h0, h1, if_pos nil_toList, h2]
 rfl
theorem walk_fo {l : List Fm} (hl : l.length ≤ 100000) : ∀ (F : Fo) (n i : Nat) (x : List Int) (post : List Int) (r : Int × Bool), Fl l F n → n ≤ l.length → x.length ≤ 100000 → x.drop i = F.pls n ++ post →
  Ev (fun k => tree_walk.l0 k l ((n + F.size : Nat) : Int) x (x.length : Int) ((i + F.num : Nat) : Int)) r → Ev (fun k => tree_walk.l0 k l (n : Int) x (x.length : Int) (i : Int)) r
 | .nil, n, i, x, post, r, _, _, _, _, h => by simpa [Fo.size, Fo.num] using h
 | .lf f rr, n, i, x, post, r, hf, hn, hx, hd, h => by
  simp only [Fo.pls, List.cons_append] at hd
  have hi : i < x.length := by
   apply Classical.byContradiction
   intro q
   rw [List.drop_of_length_le (by omega)] at hd
   cases hd
  rw [List.drop_eq_getElem_cons hi] at hd
  injection hd with hd1 hd2
  have hrd : rd x (i : Int) = (n : Int) := by
   unfold rd
   rw [Int.toNat_natCast, List.getD_eq_getElem?_getD, List.getElem?_eq_getElem hi, hd1]; rfl
  have hw : wrap64 ((i : Int) + 1) = ((i + 1 : Nat) : Int) := by unfold wrap64; omega
  have hw2 : wrap64 ((n : Int) + 1) = ((n + 1 : Nat) : Int) := by unfold wrap64; omega
  have h1 := hf.1
  have hk : (rd_T61 l (n : Int)).f3 = [] := by
   have : rd_T61 l (n : Int) = l.getD n zFm := by unfold rd_T61; rw [Int.toNat_natCast]
   rw [this, hf.2.1]; rfl
  have next := walk_fo hl rr (n + 1) (i + 1) x post r hf.2.2 (by omega) hx hd2 (by
   simp only [Fo.size, Fo.num] at h
   rw [show n + 1 + rr.size = n + (rr.size + 1) by omega, show i + 1 + rr.num = i + (rr.num + 1) by omega]
   exact h)
  refine Ev.step (f := fun k => tree_walk.j1 k l (n : Int) (n : Int) x (x.length : Int) (i : Int) false) (fun k => ?_) ?_
  ·rw [tree_walk.l0, if_pos (by omega), if_pos (by omega), if_pos (by omega), hrd, if_pos rfl, decide_eq_false (by omega)]
  refine Ev.step (f := fun k => (tree_walk.f k l [] ((n + 1 : Nat) : Int)).bind fun bt193 => (if bt193.2 = true then (tree_walk.l0 k l bt193.1 x (x.length : Int) ((i + 1 : Nat) : Int)) else (some (bt193.1, false)))) (fun k => ?_) ?_
  ·rw [tree_walk.j1, if_neg (by decide), if_pos (by omega), if_pos (by omega), hk, hw, hw2]
  refine Ev.bind (f := fun k bt193 => (if bt193.2 = true then (tree_walk.l0 k l bt193.1 x (x.length : Int) ((i + 1 : Nat) : Int)) else (some (bt193.1, false)))) (a := (((n + 1 : Nat) : Int), true)) ?_ ?_
  ·refine Ev.step (f := fun k => tree_walk.l0 k l ((n + 1 : Nat) : Int) [] 0 0) (fun k => by rw [tree_walk.f]; rfl) ?_
   refine Ev.step (f := fun k => some (((n + 1 : Nat) : Int), true)) (fun k => ?_) (Ev.now _)
   rw [tree_walk.l0, if_neg (by omega)]
  ·exact next
 | .br f ks rr, n, i, x, post, r, hf, hn, hx, hd, h => by
  simp only [Fo.pls, List.cons_append] at hd
  have hi : i < x.length := by
   apply Classical.byContradiction
   intro q
   rw [List.drop_of_length_le (by omega)] at hd
   cases hd
  rw [List.drop_eq_getElem_cons hi] at hd
  injection hd with hd1 hd2
  have hrd : rd x (i : Int) = (n : Int) := by
   unfold rd
   rw [Int.toNat_natCast, List.getD_eq_getElem?_getD, List.getElem?_eq_getElem hi, hd1]; rfl
  have hw : wrap64 ((i : Int) + 1) = ((i + 1 : Nat) : Int) := by unfold wrap64; omega
  have hw2 : wrap64 ((n : Int) + 1) = ((n + 1 : Nat) : Int) := by unfold wrap64; omega
  have h1 := hf.1
  have hks := hf.2.2.1.le h1
  have hk : (rd_T61 l (n : Int)).f3 = ks.pls (n + 1) := by
   have : rd_T61 l (n : Int) = l.getD n zFm := by unfold rd_T61; rw [Int.toNat_natCast]
   rw [this, hf.2.1]; rfl
  have next := walk_fo hl rr (n + 1 + ks.size) (i + 1) x post r hf.2.2.2 hks hx hd2 (by
   simp only [Fo.size, Fo.num] at h
   rw [show n + 1 + ks.size + rr.size = n + (ks.size + rr.size + 1) by omega, show i + 1 + rr.num = i + (rr.num + 1) by omega]
   exact h)
  have hkl : (ks.pls (n + 1)).length = ks.num := ks.pls_len (n + 1)
  have hkn := ks.num_le
  refine Ev.step (f := fun k => tree_walk.j1 k l (n : Int) (n : Int) x (x.length : Int) (i : Int) false) (fun k => ?_) ?_
  ·rw [tree_walk.l0, if_pos (by omega), if_pos (by omega), if_pos (by omega), hrd, if_pos rfl, decide_eq_false (by omega)]
  refine Ev.step (f := fun k => (tree_walk.f k l (ks.pls (n + 1)) ((n + 1 : Nat) : Int)).bind fun bt193 => (if bt193.2 = true then (tree_walk.l0 k l bt193.1 x (x.length : Int) ((i + 1 : Nat) : Int)) else (some (bt193.1, false)))) (fun k => ?_) ?_
  ·rw [tree_walk.j1, if_neg (by decide), if_pos (by omega), if_pos (by omega), hk, hw, hw2]
  refine Ev.bind (f := fun k bt193 => (if bt193.2 = true then (tree_walk.l0 k l bt193.1 x (x.length : Int) ((i + 1 : Nat) : Int)) else (some (bt193.1, false)))) (a := (((n + 1 + ks.size : Nat) : Int), true)) ?_ ?_
  ·refine Ev.step (f := fun k => tree_walk.l0 k l ((n + 1 : Nat) : Int) (ks.pls (n + 1)) ((ks.pls (n + 1)).length : Int) ((0 : Nat) : Int)) (fun k => by rw [tree_walk.f]; rfl) ?_
   refine walk_fo hl ks (n + 1) 0 _ [] _ hf.2.2.1 (by omega) (by omega) (by simp) ?_
   refine Ev.step (f := fun k => some (((n + 1 + ks.size : Nat) : Int), true)) (fun k => ?_) (Ev.now _)
   rw [tree_walk.l0, if_neg (by rw [hkl]; omega)]
  ·exact next
theorem walk_top {l : List Fm} (hl : l.length ≤ 100000) (F : Fo) (hf : Fl l F 0) (hs : F.size ≤ l.length) : Ev (fun k => tree_walk.f k l (F.pls 0) 0) ((F.size : Int), true) := by
 have hkl : (F.pls 0).length = F.num := F.pls_len 0
 have hkn := F.num_le
 refine Ev.step (f := fun k => tree_walk.l0 k l ((0 : Nat) : Int) (F.pls 0) ((F.pls 0).length : Int) ((0 : Nat) : Int)) (fun k => by rw [tree_walk.f]; rfl) ?_
 refine walk_fo hl F 0 0 _ [] _ hf (by omega) (by omega) (by simp) ?_
 refine Ev.step (f := fun k => some ((F.size : Int), true)) (fun k => ?_) (Ev.now _)
 rw [tree_walk.l0, if_neg (by rw [hkl]; omega), Nat.zero_add]
theorem right_fo {l : List Fm} {F : Fo} (hf : Fl l F 0) (hs : l.length = F.size) (ha : F.all LeafOk BrOk) (h4 : F.size ≤ 400) (hd : F.dep ≤ 12) : Ev (fun k => tree_Right.f k l (F.pls 0)) true := by
 have last : Ev (fun k => tree_Right.l0 k l (F.pls 0) l (l.length : Int) (l.length : Int)) true := by
  refine Ev.step (f := fun k => (tree_walk.f k l (F.pls 0) 0).bind fun bt111 => (if bt111.2 = true then (if bt111.1 = (l.length : Int) then ((tree_Depth.f l (F.pls 0)).bind fun t113 => (some (decide (t113 ≤ 12)))) else (some false)) else (some false))) (fun k => ?_) ?_
  ·rw [tree_Right.l0, if_neg (by omega)]
  refine Ev.bind (f := fun k bt111 => (if bt111.2 = true then (if bt111.1 = (l.length : Int) then ((tree_Depth.f l (F.pls 0)).bind fun t113 => (some (decide (t113 ≤ 12)))) else (some false)) else (some false))) (walk_top (by omega) F hf (by omega)) ?_
  refine Ev.congr (f := fun k => some true) (fun k => ?_) (Ev.now _)
  rw [if_pos rfl, if_pos (by rw [hs])]
  unfold tree_Depth.f
  rw [if_pos (by omega), depth_fo hf ha.is]
  show some _ = _
  rw [decide_eq_true (by omega)]
 have loop : ∀ d i, i + d = l.length → Ev (fun k => tree_Right.l0 k l (F.pls 0) l (l.length : Int) (i : Int)) true := by
  intro d
  induction d with
  | zero => intro i hi; rw [show i = l.length by omega]; exact last
  | succ d ih =>
   intro i hi
   have hw : wrap64 ((i : Int) + 1) = ((i + 1 : Nat) : Int) := by unfold wrap64; omega
   have hr : rd_T61 l (i : Int) = l.getD i zFm := by unfold rd_T61; rw [Int.toNat_natCast]
   refine Ev.step (f := fun k => (tree_alone.f k (l.getD i zFm).f0 (l.getD i zFm).f1 (l.getD i zFm).f2 (l.getD i zFm).f3 (l.getD i zFm).f4).bind fun t110 => (if t110 = true then (tree_Right.l0 k l (F.pls 0) l (l.length : Int) ((i + 1 : Nat) : Int)) else (some false))) (fun k => ?_) ?_
   ·rw [tree_Right.l0, if_pos (by omega), if_pos (by omega), if_pos (by omega), hr, hw]
   refine Ev.bind (f := fun k t110 => (if t110 = true then (tree_Right.l0 k l (F.pls 0) l (l.length : Int) ((i + 1 : Nat) : Int)) else (some false))) (a := true) ?_ (ih (i + 1) (by omega))
   rcases hf.at ha i (Nat.zero_le _) (by omega) with ⟨f, hP, e⟩ | ⟨f, ks, hQ, e, _⟩
   ·rw [e]; exact alone_leaf hP
   ·rw [e]; exact alone_br hQ _
 refine Ev.congr (f := fun k => tree_Right.l0 k l (F.pls 0) l (l.length : Int) ((0 : Nat) : Int)) (fun k => ?_) (loop l.length 0 (by omega))
 unfold tree_Right.f
 rw [if_neg (by omega)]
 rfl
end Go.Proofs.YtldjbgonlbmeaaaDoor.F
end
section
/- Plain law: a forest's text: its signs, its lines; Print and Pretty tell it. -/
set_option linter.unusedSimpArgs false
set_option linter.unusedVariables false
namespace Go.Proofs.YtldjbgonlbmeaaaDoor.F
open Go.RowKit Go.Proofs.YtldjbgonlbmeaaaDoor.PA Go.Proofs.YtldjbgonlbmeaaaDoor.PB Go.Proofs.YtldjbgonlbmeaaaDoor.T Go.Proofs.YtldjbgonlbmeaaaDoor.Nm Go.Proofs.YtldjbgonlbmeaaaDoor.Dig Go.Proofs.YtldjbgonlbmeaaaDoorW.PrintWords Go.Proofs.YtldjbgonlbmeaaaDoorW.PrintLast
def wb (c : UInt8) : Bool := !(c == 32 || c == 9 || c == 10 || c == 40 || c == 41 || c == 59)
theorem wb_of {c : UInt8} (h : c.toNat ≠ 32 ∧ c.toNat ≠ 9 ∧ c.toNat ≠ 10 ∧ c.toNat ≠ 40 ∧ c.toNat ≠ 41 ∧ c.toNat ≠ 59) : wb c = true := by
 obtain ⟨h1, h2, h3, h4, h5, h6⟩ := h
 have q : ∀ d : UInt8, c.toNat ≠ d.toNat → (c == d) = false := fun d hd => beq_eq_false_iff_ne.2 fun e => hd (by rw [e])
 unfold wb
 rw [q 32 h1, q 9 h2, q 10 h3, q 40 h4, q 41 h5, q 59 h6]
 rfl
theorem wb_dig {c : UInt8} (h : isd c = true) : wb c = true := by
 unfold isd at h
 simp only [Bool.and_eq_true, decide_eq_true_eq] at h
 exact wb_of (by omega)
theorem text_wb (v : Int) : ∀ c ∈ text v, wb c = true := by
 intro c hc
 by_cases h : v < 0
 ·rw [text_neg h] at hc
  rcases List.mem_cons.1 hc with e | e
  ·rw [e]; decide
  ·exact wb_dig ((dec_val _).2 c e)
 ·rw [text_nat h] at hc
  exact wb_dig ((dec_val _).2 c hc)
theorem name_wb {s : ByteArray} (h : nmok s = true) : s.data.toList ≠ [] ∧ s.data.toList.length ≤ 8 ∧ ∀ c ∈ s.data.toList, wb c = true := by
 unfold nmok at h
 simp only [Bool.and_eq_true, decide_eq_true_eq] at h
 obtain ⟨⟨h1, h2⟩, h3⟩ := h
 have hl : s.data.toList.length = s.size := by simp
 refine ⟨fun e => by rw [e] at hl; simp at hl; omega, by omega, fun c hc => ?_⟩
 obtain ⟨i, hi, rfl⟩ := List.mem_iff_getElem.1 hc
 unfold good at h3
 have := List.all_eq_true.1 h3 i (List.mem_range.2 (by omega))
 have hb : byte s i = (s.data.toList[i]).toNat := by
  unfold byte
  rw [dif_pos (by omega)]
  rfl
 rw [hb] at this
 unfold Nm.gd at this
 simp only [Bool.or_eq_true, decide_eq_true_eq] at this
 exact wb_of (by omega)
theorem sign_wb : ∀ s ∈ signs, s ≠ [] ∧ s.length ≤ 8 ∧ ∀ c ∈ s, wb c = true := by decide
theorem wkd_name {x : ByteArray} (h : wkd x = 3) : x.data.toList ≠ [] ∧ x.data.toList.length ≤ 8 ∧ ∀ c ∈ x.data.toList, wb c = true := by
 unfold wkd at h
 split at h
 ·exact absurd h (by decide)
 ·split at h
  ·rename_i _ hs
   have := sign_wb _ hs
   rwa [Go.ByteArray.toList_eq] at this
  ·split at h
   ·rename_i hn
    exact name_wb hn
   ·exact absurd h (by decide)
theorem leaf_wb {f : Fm} (h : LeafOk f) : leafT f ≠ [] ∧ (leafT f).length ≤ 20 ∧ ∀ c ∈ leafT f, wb c = true := by
 unfold leafT
 rcases h with ⟨h0, h2, h1, hs⟩ | ⟨h0, h1, h2, h3⟩
 ·rw [if_neg (by omega)]
  have := wkd_name h1
  exact ⟨this.1, by omega, this.2.2⟩
 ·rw [if_pos h0]
  exact ⟨text_ne _, Dig.text_len ⟨h2, h3⟩, text_wb _⟩
theorem wb_cnt {x : List UInt8} (h : ∀ c ∈ x, wb c = true) : x.count 10 = 0 := List.count_eq_zero.2 fun hm => by
 have := h 10 hm
 exact absurd this (by decide)
theorem tx_cnt : ∀ (F : Fo) (first : Bool), F.all LeafOk BrOk → (F.tx first).count 10 = 0 ∧ (F.tx first).length ≤ F.size * 24
 | .nil, _, _ => ⟨rfl, Nat.zero_le _⟩
 | .lf f r, first, h => by
  obtain ⟨a, b⟩ := tx_cnt r false h.2
  obtain ⟨_, c, d⟩ := leaf_wb h.1
  simp only [Fo.tx, Fo.size, List.count_append, List.length_append, wb_cnt d, a]
  refine ⟨by cases first <;> rfl, ?_⟩
  have : (if first = true then ([] : List UInt8) else [32]).length ≤ 1 := by cases first <;> simp
  omega
 | .br f ks r, first, h => by
  obtain ⟨a, b⟩ := tx_cnt r false h.2.2
  obtain ⟨a', b'⟩ := tx_cnt ks true h.2.1
  simp only [Fo.tx, Fo.size, List.count_append, List.length_append, a, a', List.length_cons, List.length_nil]
  refine ⟨by cases first <;> rfl, ?_⟩
  have : (if first = true then ([] : List UInt8) else [32]).length ≤ 1 := by cases first <;> simp
  omega
theorem pl_cnt : ∀ (F : Fo), F.all LeafOk BrOk → F.pl.count 10 = F.num ∧ F.pl.length ≤ F.size * 24
 | .nil, _ => ⟨rfl, Nat.zero_le _⟩
 | .lf f r, h => by
  obtain ⟨a, b⟩ := pl_cnt r h.2
  obtain ⟨_, c, d⟩ := leaf_wb h.1
  simp only [Fo.pl, Fo.size, Fo.num, List.count_append, List.length_append, wb_cnt d, a, List.length_cons, List.length_nil]
  refine ⟨by rw [show List.count (10 : UInt8) [10] = 1 from rfl]; omega, by omega⟩
 | .br f ks r, h => by
  obtain ⟨a, b⟩ := pl_cnt r h.2.2
  obtain ⟨a', b'⟩ := tx_cnt ks true h.2.1
  simp only [Fo.pl, Fo.size, Fo.num, List.count_append, List.length_append, a, a', List.length_cons, List.length_nil]
  refine ⟨by rw [show List.count (10 : UInt8) [10] = 1 from rfl, show List.count (10 : UInt8) [40] = 0 from rfl, show List.count (10 : UInt8) [41] = 0 from rfl]; omega, by omega⟩
theorem line_cnt (deep : Nat) : (lineL deep).count 10 = 1 := by
 unfold lineL
 have : ∀ n, (Lib.repeatL [32, 32] n).count 10 = 0 := fun n => by
  induction n with
  | zero => rfl
  | succ n ih => rw [Lib.repeatL, List.count_append, ih]; rfl
 rw [List.count_cons, this]
 rfl
theorem py_cnt : ∀ (F : Fo) (deep : Nat) (first seen : Bool), F.all LeafOk BrOk → (F.py deep first seen).count 10 ≤ F.size ∧ (deep + F.size ≤ 410 → (F.py deep first seen).length ≤ F.size * 1000)
 | .nil, _, _, _, _ => ⟨Nat.zero_le _, fun _ => Nat.zero_le _⟩
 | .lf f r, deep, first, seen, h => by
  obtain ⟨a, b⟩ := py_cnt r deep false seen h.2
  obtain ⟨_, c, d⟩ := leaf_wb h.1
  simp only [Fo.py, Fo.size, List.count_append, List.length_append, wb_cnt d]
  have q : (if seen = true then lineL deep else if first = true then ([] : List UInt8) else [32]).count 10 ≤ 1 := by
   split
   ·rw [line_cnt]; omega
   ·split <;> decide
  have q2 : (if seen = true then lineL deep else if first = true then ([] : List UInt8) else [32]).length ≤ 1 + 2 * deep := by
   split
   ·rw [lineL_len]; omega
   ·split <;> simp
  exact ⟨by omega, fun hd => by have := b (by omega); omega⟩
 | .br f ks r, deep, first, seen, h => by
  obtain ⟨a, b⟩ := py_cnt r deep false true h.2.2
  obtain ⟨a', b'⟩ := py_cnt ks (deep + 1) true false h.2.1
  simp only [Fo.py, Fo.size, List.count_append, List.length_append, line_cnt, lineL_len, List.length_cons, List.length_nil]
  rw [show List.count (10 : UInt8) [40] = 0 from rfl, show List.count (10 : UInt8) [41] = 0 from rfl]
  exact ⟨by omega, fun hd => by have := b (by omega); have := b' (by omega); omega⟩
theorem yl_cnt : ∀ (F : Fo), F.all LeafOk BrOk → F.num ≤ F.yl.count 10 ∧ F.yl.count 10 ≤ F.size ∧ (F.size ≤ 400 → F.yl.length ≤ F.size * 1000)
 | .nil, _ => ⟨Nat.zero_le _, Nat.zero_le _, fun _ => Nat.zero_le _⟩
 | .lf f r, h => by
  obtain ⟨a, b, e⟩ := yl_cnt r h.2
  obtain ⟨_, c, d⟩ := leaf_wb h.1
  simp only [Fo.yl, Fo.size, Fo.num, List.count_append, List.length_append, wb_cnt d, List.length_cons, List.length_nil]
  rw [show List.count (10 : UInt8) [10] = 1 from rfl]
  exact ⟨by omega, by omega, fun hd => by have := e (by omega); omega⟩
 | .br f ks r, h => by
  obtain ⟨a, b, e⟩ := yl_cnt r h.2.2
  obtain ⟨a', b'⟩ := py_cnt ks 1 true false h.2.1
  simp only [Fo.yl, Fo.size, Fo.num, List.count_append, List.length_append, List.length_cons, List.length_nil]
  rw [show List.count (10 : UInt8) [10] = 1 from rfl, show List.count (10 : UInt8) [40] = 0 from rfl, show List.count (10 : UInt8) [41] = 0 from rfl]
  exact ⟨by omega, by omega, fun hd => by have := e (by omega); have := b' (by omega); omega⟩
theorem okl_fo {l : List Fm} {F : Fo} (hf : Fl l F 0) (hs : l.length = F.size) (ha : F.all LeafOk BrOk) : Okl l = true := by
 unfold Okl
 rw [List.all_eq_true]
 intro g hg
 obtain ⟨i, hi, rfl⟩ := List.mem_iff_getElem.1 hg
 have e : l.getD i zFm = l[i] := by rw [List.getD_eq_getElem?_getD, List.getElem?_eq_getElem hi]; rfl
 rw [← e]
 simp only [Bool.and_eq_true, decide_eq_true_eq]
 rcases hf.at ha i (Nat.zero_le _) (by omega) with ⟨f, hP, q⟩ | ⟨f, ks, ⟨h0, h1, h2⟩, q, _⟩
 ·rw [q]
  rcases hP with ⟨h0, h2, h1, hs⟩ | ⟨h0, h1, h2, h3⟩
  ·exact ⟨⟨hs, by show -9223372036854775808 ≤ f.f2; omega⟩, by show f.f2 ≤ 9223372036854775807; omega⟩
  ·exact ⟨⟨by show f.f1.size ≤ _; rw [h1]; exact Nat.zero_le _, h2⟩, h3⟩
 ·rw [q]
  exact ⟨⟨by show f.f1.size ≤ _; rw [h1]; exact Nat.zero_le _, by show -9223372036854775808 ≤ f.f2; omega⟩, by show f.f2 ≤ 9223372036854775807; omega⟩
theorem kin_fo {l : List Fm} {F : Fo} (hf : Fl l F 0) (hs : l.length = F.size) (ha : F.all IsLeaf IsBr) : Kin l := fun i hi k hk => by
 rcases hf.at ha i (Nat.zero_le _) (by omega) with ⟨f, hP, q⟩ | ⟨f, ks, hQ, q, hk2, hle, _⟩
 ·rw [q] at hk; cases hk
 ·rw [q] at hk
  have := ks.pls_in (i + 1) k hk
  omega
theorem tin_fo {l : List Fm} {F : Fo} (hs : l.length = F.size) : Tin l (F.pls 0) := fun t ht => by
 have := F.pls_in 0 t ht
 omega
structure Std (l : List Fm) (F : Fo) : Prop where
 fl : Fl l F 0
 len : l.length = F.size
 ok : F.all LeafOk BrOk
 small : F.size ≤ 400
 deep : F.dep ≤ 12
theorem Std.PL {l : List Fm} {F : Fo} (h : Std l F) : T.PL l (F.pls 0) = F.pl := pl_fo (by rw [h.len]; exact h.small) F 0 h.fl h.ok.is
theorem Std.YL {l : List Fm} {F : Fo} (h : Std l F) : T.YL l (F.pls 0) = F.yl := yl_fo (by rw [h.len]; exact h.small) F 0 l.length h.fl h.ok.is (by rw [h.len]; omega)
theorem Std.print {l : List Fm} {F : Fo} (h : Std l F) : Ev (fun k => show_Print.f k l (F.pls 0)) (⟨F.pl.toArray⟩, 0) := by
 refine Ev.bind (f := fun _ b => if b = true then (if Okl l = true ∧ (T.PL l (F.pls 0)).length ≤ 70368744177664 then some ((⟨(T.PL l (F.pls 0)).toArray⟩ : ByteArray), (0 : Int)) else none) else some (⟨#[]⟩, 3)) (right_fo h.fl h.len h.ok h.small h.deep) ?_
 have := (pl_cnt F h.ok).2
 have := h.small
 rw [if_pos rfl, if_pos ⟨okl_fo h.fl h.len h.ok, by rw [h.PL]; omega⟩, h.PL]
 exact Ev.now _
theorem Std.pretty {l : List Fm} {F : Fo} (h : Std l F) : Ev (fun k => show_Pretty.f k l (F.pls 0)) (⟨F.yl.toArray⟩, 0) := by
 refine Ev.bind (f := fun _ b => if b = true then (if PrettyOk l (F.pls 0) then some ((⟨(T.YL l (F.pls 0)).toArray⟩ : ByteArray), (0 : Int)) else none) else some (⟨#[]⟩, 3)) (right_fo h.fl h.len h.ok h.small h.deep) ?_
 have hs := h.small
 have := (yl_cnt F h.ok).2.2 hs
 rw [if_pos rfl, if_pos ⟨okl_fo h.fl h.len h.ok, kin_fo h.fl h.len h.ok.is, tin_fo h.len, by rw [h.len]; exact hs, by rw [h.YL]; omega⟩, h.YL]
 exact Ev.now _
end Go.Proofs.YtldjbgonlbmeaaaDoor.F
end
section
/- Whatever forms there are: they stand as a forest, or they are not right; both tell so. -/
set_option linter.unusedSimpArgs false
set_option linter.unusedVariables false
namespace Go.Proofs.YtldjbgonlbmeaaaDoor.F
open Go.RowKit Go.Proofs.YtldjbgonlbmeaaaDoor.PA Go.Proofs.YtldjbgonlbmeaaaDoor.PB Go.Proofs.YtldjbgonlbmeaaaDoor.T Go.Proofs.YtldjbgonlbmeaaaDoor.Dig Go.Proofs.YtldjbgonlbmeaaaDoorW.PrintWords Go.Proofs.YtldjbgonlbmeaaaDoorW.PrintLast
theorem rdF_at (l : List Fm) (i : Nat) : rd_T61 l (i : Int) = l.getD i zFm := by unfold rd_T61; rw [Int.toNat_natCast]
def I64 (v : Int) : Prop := -9223372036854775808 ≤ v ∧ v ≤ 9223372036854775807
noncomputable def okA (f : Fm) : Bool :=
 if f.f0 = 1 then decide (f.f1.toList = ([] : List UInt8)) && decide (f.f2 = 0) else
 if f.f0 = 3 then decide (f.f2 = 0) && decide (f.f3 = []) && decide (wkd f.f1 = 3) else
 if f.f0 = 4 then decide (f.f1.toList = ([] : List UInt8)) && decide (f.f3 = []) else false
theorem len0 (ps : List Int) : ((ps.length : Int) = 0) ↔ ps = [] := by
 cases ps with
 | nil => simp
 | cons a b => simp; omega
theorem alone_any (f : Fm) (hx : f.f1.size ≤ 9223372036854775807) : Ev (fun k => tree_alone.f k f.f0 f.f1 f.f2 f.f3 f.f4) (okA f) := by
 unfold okA
 by_cases h1 : f.f0 = 1
 ·refine Ev.congr (f := fun _ => some _) (fun k => ?_) (Ev.now _)
  unfold tree_alone.f
  by_cases h2 : f.f1.toList = ([] : List UInt8) <;> by_cases h3 : f.f2 = 0 <;> simp [h1, h2, h3]
 ·by_cases h3 : f.f0 = 3
  ·by_cases h2 : f.f2 = 0
   ·by_cases h4 : f.f3 = []
    ·refine Ev.congr (f := fun k => (lex_WordKind.f k f.f1).bind fun t => some (t == 3)) (fun k => ?_) ?_
     ·unfold tree_alone.f; rw [if_neg h1, if_pos h3, if_pos h2, if_pos ((len0 _).2 h4)]
     ·refine Ev.bind (f := fun _ t => some (t == 3)) (ev_wk f.f1 hx) (Ev.congr (f := fun _ => some _) (fun k => ?_) (Ev.now _))
      by_cases h5 : wkd f.f1 = 3 <;> simp [h1, h2, h3, h4, h5]
    ·refine Ev.congr (f := fun _ => some _) (fun k => ?_) (Ev.now _)
     unfold tree_alone.f; rw [if_neg h1, if_pos h3, if_pos h2, if_neg (fun e => h4 ((len0 _).1 e))]; simp [h1, h3, h4]
   ·refine Ev.congr (f := fun _ => some _) (fun k => ?_) (Ev.now _)
    unfold tree_alone.f; rw [if_neg h1, if_pos h3, if_neg h2]; simp [h1, h3, h2]
  ·refine Ev.congr (f := fun _ => some _) (fun k => ?_) (Ev.now _)
   unfold tree_alone.f
   by_cases h4 : f.f0 = 4
   ·by_cases h2 : f.f1.toList = ([] : List UInt8) <;> by_cases h5 : f.f3 = [] <;> simp [h1, h3, h4, h2, h5]
   ·simp [h1, h3, h4]
theorem plain_any (f : Fm) : Ev (fun k => reticuleref07_plain.f k f.f0 f.f1 f.f2 f.f3 f.f4) (okA f) := by
 unfold okA
 by_cases h1 : f.f0 = 1
 ·refine Ev.congr (f := fun _ => some _) (fun k => ?_) (Ev.now _)
  unfold reticuleref07_plain.f
  by_cases h2 : f.f1.toList = ([] : List UInt8) <;> by_cases h3 : f.f2 = 0 <;> simp [h1, h2, h3]
 ·by_cases h3 : f.f0 = 3
  ·by_cases h4 : f.f3 = []
   ·by_cases h2 : f.f2 = 0
    ·refine Ev.congr (f := fun k => (reticuleref06_WordKind.f k f.f1).bind fun t => some (t == 3)) (fun k => ?_) ?_
     ·unfold reticuleref07_plain.f; rw [if_neg h1, if_pos h3, if_pos ((len0 _).2 h4), if_pos h2]
     ·refine Ev.bind (f := fun _ t => some (t == 3)) (ev_rw f.f1) (Ev.congr (f := fun _ => some _) (fun k => ?_) (Ev.now _))
      by_cases h5 : wkd f.f1 = 3 <;> simp [h1, h2, h3, h4, h5]
    ·refine Ev.congr (f := fun _ => some _) (fun k => ?_) (Ev.now _)
     unfold reticuleref07_plain.f; rw [if_neg h1, if_pos h3, if_pos ((len0 _).2 h4), if_neg h2]; simp [h1, h3, h2]
   ·refine Ev.congr (f := fun _ => some _) (fun k => ?_) (Ev.now _)
    unfold reticuleref07_plain.f; rw [if_neg h1, if_pos h3, if_neg (fun e => h4 ((len0 _).1 e))]; simp [h1, h3, h4]
  ·refine Ev.congr (f := fun _ => some _) (fun k => ?_) (Ev.now _)
   unfold reticuleref07_plain.f
   by_cases h4 : f.f0 = 4
   ·by_cases h2 : f.f1.toList = ([] : List UInt8) <;> by_cases h5 : f.f3 = [] <;> simp [h1, h3, h4, h2, h5]
   ·simp [h1, h3, h4]
theorem ba_nil {x : ByteArray} (h : x.toList = ([] : List UInt8)) : x = ⟨#[]⟩ := by
 rw [Go.ByteArray.toList_eq] at h
 apply ByteArray.ext
 exact Array.toList_inj.1 (by rw [h])
theorem ok_br {f : Fm} (h : okA f = true) (h1 : f.f0 = 1) : BrOk f := by
 unfold okA at h
 rw [if_pos h1] at h
 simp only [Bool.and_eq_true, decide_eq_true_eq] at h
 exact ⟨h1, ba_nil h.1, h.2⟩
theorem ok_lf {f : Fm} (h : okA f = true) (h1 : f.f0 ≠ 1) (hv : I64 f.f2) : LeafOk f ∧ f.f3 = [] := by
 unfold okA at h
 rw [if_neg h1] at h
 by_cases h3 : f.f0 = 3
 ·rw [if_pos h3] at h
  simp only [Bool.and_eq_true, decide_eq_true_eq] at h
  have hs := (wkd_name h.2).2.1
  have e : f.f1.data.toList.length = f.f1.size := by rw [Array.length_toList]; rfl
  exact ⟨Or.inl ⟨h3, h.1.1, h.2, by omega⟩, h.1.2⟩
 ·rw [if_neg h3] at h
  by_cases h4 : f.f0 = 4
  ·rw [if_pos h4] at h
   simp only [Bool.and_eq_true, decide_eq_true_eq] at h
   exact ⟨Or.inr ⟨h4, ba_nil h.1, hv.1, hv.2⟩, h.2⟩
  ·rw [if_neg h4] at h; cases h
theorem walk_any {l : List Fm} (hl : l.length ≤ 400) (hA : ∀ i, i < l.length → okA (l.getD i zFm) = true ∧ I64 (l.getD i zFm).f2) :
  ∀ (D n : Nat), n ≤ l.length → l.length ≤ n + D → ∀ (ps : List Int) (i : Nat), i ≤ n →
  (∃ F, Fl l F n ∧ F.all LeafOk BrOk ∧ F.pls n = ps.drop i ∧ Ev (fun k => tree_walk.l0 k l (n : Int) ps (ps.length : Int) (i : Int)) (((n + F.size : Nat) : Int), true) ∧ Ev (fun k => reticuleref07_through.l0 k l ps (n : Int) (i : Int)) ((n + F.size : Nat) : Int)) ∨
  ((∃ m, Ev (fun k => tree_walk.l0 k l (n : Int) ps (ps.length : Int) (i : Int)) (m, false)) ∧ Ev (fun k => reticuleref07_through.l0 k l ps (n : Int) (i : Int)) (-1)) := by
 intro D
 induction D with
 | zero =>
  intro n hn hD ps i hin
  by_cases hi : i < ps.length
  ·have hrd : rd ps (i : Int) = ps[i] := by unfold rd; rw [Int.toNat_natCast, List.getD_eq_getElem?_getD, List.getElem?_eq_getElem hi]; rfl
   refine Or.inr ⟨⟨(n : Int), Ev.step (f := fun k => tree_walk.j1 k l (n : Int) ps[i] ps (ps.length : Int) (i : Int) true) (fun k => ?_) (Ev.step (f := fun _ => some ((n : Int), false)) (fun k => by rw [tree_walk.j1, if_pos rfl]) (Ev.now _))⟩, Ev.step (f := fun k => reticuleref07_through.j1 k l ps (n : Int) (i : Int) true) (fun k => ?_) (Ev.step (f := fun _ => some (-1)) (fun k => by rw [reticuleref07_through.j1, if_pos rfl]) (Ev.now _))⟩
   ·rw [tree_walk.l0, if_pos (by omega), if_pos (by omega), if_pos (by omega), hrd]
    by_cases he : ps[i] = (n : Int)
    ·rw [if_pos he, decide_eq_true (by omega)]
    ·rw [if_neg he]
   ·rw [reticuleref07_through.l0, if_pos (by omega), if_pos (by omega)]
  ·refine Or.inl ⟨.nil, trivial, trivial, by rw [List.drop_of_length_le (by omega)]; rfl, Ev.step (f := fun _ => some ((n : Int), true)) (fun k => ?_) (Ev.now _), Ev.step (f := fun _ => some (n : Int)) (fun k => ?_) (Ev.now _)⟩
   ·rw [tree_walk.l0, if_neg (by omega)]
   ·rw [reticuleref07_through.l0, if_neg (by omega)]
 | succ D ih =>
  intro n hn hD ps i hin
  by_cases hi : i < ps.length
  ·have hrd : rd ps (i : Int) = ps[i] := by unfold rd; rw [Int.toNat_natCast, List.getD_eq_getElem?_getD, List.getElem?_eq_getElem hi]; rfl
   by_cases hb : ps[i] = (n : Int) ∧ n < l.length
   ·obtain ⟨he, hnl⟩ := hb
    have hw1 : wrap64 ((n : Int) + 1) = ((n + 1 : Nat) : Int) := by unfold wrap64; omega
    have hw2 : wrap64 ((i : Int) + 1) = ((i + 1 : Nat) : Int) := by unfold wrap64; omega
    have goW : ∀ r, Ev (fun k => (tree_walk.f k l (l.getD n zFm).f3 ((n + 1 : Nat) : Int)).bind fun bt => (if bt.2 = true then (tree_walk.l0 k l bt.1 ps (ps.length : Int) ((i + 1 : Nat) : Int)) else (some (bt.1, false)))) r → Ev (fun k => tree_walk.l0 k l (n : Int) ps (ps.length : Int) (i : Int)) r := fun r h => by
     refine Ev.step (f := fun k => tree_walk.j1 k l (n : Int) (n : Int) ps (ps.length : Int) (i : Int) false) (fun k => ?_) (Ev.step (fun k => ?_) h)
     ·rw [tree_walk.l0, if_pos (by omega), if_pos (by omega), if_pos (by omega), hrd, if_pos he, he, decide_eq_false (by omega)]
     ·rw [tree_walk.j1, if_neg (by decide), if_pos (by omega), if_pos (by omega), rdF_at, hw1, hw2]
    have goT : ∀ r, Ev (fun k => (reticuleref07_through.f k l (l.getD n zFm).f3 ((n + 1 : Nat) : Int)).bind fun t => (if t < 0 then (some (-1)) else (reticuleref07_through.l0 k l ps t ((i + 1 : Nat) : Int)))) r → Ev (fun k => reticuleref07_through.l0 k l ps (n : Int) (i : Int)) r := fun r h => by
     refine Ev.step (f := fun k => reticuleref07_through.j1 k l ps (n : Int) (i : Int) false) (fun k => ?_) (Ev.step (fun k => ?_) h)
     ·rw [reticuleref07_through.l0, if_pos (by omega), if_neg (by omega), if_pos (by omega), hrd, he]; simp
     ·rw [reticuleref07_through.j1, if_neg (by decide), if_pos (by omega), if_pos (by omega), rdF_at, hw1, hw2]
    have inW : ∀ r, Ev (fun k => tree_walk.l0 k l ((n + 1 : Nat) : Int) (l.getD n zFm).f3 ((l.getD n zFm).f3.length : Int) ((0 : Nat) : Int)) r → Ev (fun k => tree_walk.f k l (l.getD n zFm).f3 ((n + 1 : Nat) : Int)) r := fun r h => Ev.step (fun k => by rw [tree_walk.f]; rfl) h
    have inT : ∀ r, Ev (fun k => reticuleref07_through.l0 k l (l.getD n zFm).f3 ((n + 1 : Nat) : Int) ((0 : Nat) : Int)) r → Ev (fun k => reticuleref07_through.f k l (l.getD n zFm).f3 ((n + 1 : Nat) : Int)) r := fun r h => Ev.step (fun k => by rw [reticuleref07_through.f]; rfl) h
    rcases ih (n + 1) (by omega) (by omega) (l.getD n zFm).f3 0 (by omega) with ⟨K, fK, aK, pK, wK, tK⟩ | ⟨⟨m, wK⟩, tK⟩
    ·have hKl := fK.le (by omega)
     have stepW : ∀ r, Ev (fun k => tree_walk.l0 k l ((n + 1 + K.size : Nat) : Int) ps (ps.length : Int) ((i + 1 : Nat) : Int)) r → Ev (fun k => tree_walk.l0 k l (n : Int) ps (ps.length : Int) (i : Int)) r := fun r h => goW r (Ev.bind (f := fun k bt => (if bt.2 = true then (tree_walk.l0 k l bt.1 ps (ps.length : Int) ((i + 1 : Nat) : Int)) else (some (bt.1, false)))) (inW _ wK) (Ev.congr (fun k => by rw [if_pos rfl]) h))
     have stepT : ∀ r, Ev (fun k => reticuleref07_through.l0 k l ps ((n + 1 + K.size : Nat) : Int) ((i + 1 : Nat) : Int)) r → Ev (fun k => reticuleref07_through.l0 k l ps (n : Int) (i : Int)) r := fun r h => goT r (Ev.bind (f := fun k t => (if t < 0 then (some (-1)) else (reticuleref07_through.l0 k l ps t ((i + 1 : Nat) : Int)))) (inT _ tK) (Ev.congr (fun k => by rw [if_neg (by omega)]) h))
     rcases ih (n + 1 + K.size) hKl (by omega) ps (i + 1) (by omega) with ⟨R, fR, aR, pR, wR, tR⟩ | ⟨⟨m, wR⟩, tR⟩
     ·have hps : (n : Int) :: ps.drop (i + 1) = ps.drop i := by rw [List.drop_eq_getElem_cons hi, he]
      obtain ⟨ho, hv⟩ := hA n hnl
      by_cases h1 : (l.getD n zFm).f0 = 1
      ·refine Or.inl ⟨.br (l.getD n zFm) K R, ⟨hnl, ?_, fK, fR⟩, ⟨ok_br ho h1, aK, aR⟩, ?_, ?_, ?_⟩
       ·rw [pK]; rfl
       ·simp only [Fo.pls]; rw [pR, hps]
       ·simp only [Fo.size]; rw [show n + (K.size + R.size + 1) = n + 1 + K.size + R.size by omega]; exact stepW _ wR
       ·simp only [Fo.size]; rw [show n + (K.size + R.size + 1) = n + 1 + K.size + R.size by omega]; exact stepT _ tR
      ·obtain ⟨hlf, h3⟩ := ok_lf ho h1 hv
       have hK0 : K.size = 0 := by
        rw [h3] at pK
        have : (K.pls (n + 1)).length = 0 := by rw [pK]; rfl
        rw [K.pls_len] at this
        cases K with
        | nil => rfl
        | lf f r => simp [Fo.num] at this
        | br f a r => simp [Fo.num] at this
       rw [hK0, Nat.add_zero] at fR pR wR tR stepW stepT
       refine Or.inl ⟨.lf (l.getD n zFm) R, ⟨hnl, ?_, fR⟩, ⟨hlf, aR⟩, ?_, ?_, ?_⟩
       ·rw [← h3]; rfl
       ·simp only [Fo.pls]; rw [pR, hps]
       ·simp only [Fo.size]; rw [show n + (R.size + 1) = n + 1 + R.size by omega]; exact stepW _ wR
       ·simp only [Fo.size]; rw [show n + (R.size + 1) = n + 1 + R.size by omega]; exact stepT _ tR
     ·exact Or.inr ⟨⟨m, stepW _ wR⟩, stepT _ tR⟩
    ·refine Or.inr ⟨⟨m, goW _ (Ev.bind (f := fun k bt => (if bt.2 = true then (tree_walk.l0 k l bt.1 ps (ps.length : Int) ((i + 1 : Nat) : Int)) else (some (bt.1, false)))) (inW _ wK) (Ev.congr (f := fun _ => some (m, false)) (fun k => by rw [if_neg (by simp)]) (Ev.now _)))⟩, goT _ (Ev.bind (f := fun k t => (if t < 0 then (some (-1)) else (reticuleref07_through.l0 k l ps t ((i + 1 : Nat) : Int)))) (inT _ tK) (Ev.congr (f := fun _ => some (-1)) (fun k => by rw [if_pos (by decide)]) (Ev.now _)))⟩
   ·refine Or.inr ⟨⟨(n : Int), Ev.step (f := fun k => tree_walk.j1 k l (n : Int) ps[i] ps (ps.length : Int) (i : Int) true) (fun k => ?_) (Ev.step (f := fun _ => some ((n : Int), false)) (fun k => by rw [tree_walk.j1, if_pos rfl]) (Ev.now _))⟩, Ev.step (f := fun k => reticuleref07_through.j1 k l ps (n : Int) (i : Int) true) (fun k => ?_) (Ev.step (f := fun _ => some (-1)) (fun k => by rw [reticuleref07_through.j1, if_pos rfl]) (Ev.now _))⟩
    ·rw [tree_walk.l0, if_pos (by omega), if_pos (by omega), if_pos (by omega), hrd]
     by_cases he : ps[i] = (n : Int)
     ·rw [if_pos he, decide_eq_true (by have : ¬ n < l.length := fun q => hb ⟨he, q⟩; omega)]
     ·rw [if_neg he]
    ·rw [reticuleref07_through.l0, if_pos (by omega)]
     by_cases hq : (n : Int) ≥ (l.length : Int)
     ·rw [if_pos hq]
     ·rw [if_neg hq, if_pos (by omega), hrd]
      have : ps[i] ≠ (n : Int) := fun q => hb ⟨q, by omega⟩
      rw [show (ps[i] != (n : Int)) = true from bne_iff_ne.2 this]
  ·refine Or.inl ⟨.nil, trivial, trivial, by rw [List.drop_of_length_le (by omega)]; rfl, Ev.step (f := fun _ => some ((n : Int), true)) (fun k => ?_) (Ev.now _), Ev.step (f := fun _ => some (n : Int)) (fun k => ?_) (Ev.now _)⟩
   ·rw [tree_walk.l0, if_neg (by omega)]
   ·rw [reticuleref07_through.l0, if_neg (by omega)]
end Go.Proofs.YtldjbgonlbmeaaaDoor.F
end
section
/- The reference's depth; whether forms are right: both tell the same. -/
set_option linter.unusedSimpArgs false
set_option linter.unusedVariables false
namespace Go.Proofs.YtldjbgonlbmeaaaDoor.F
open Go.RowKit Go.Proofs.YtldjbgonlbmeaaaDoor.PA Go.Proofs.YtldjbgonlbmeaaaDoor.PB Go.Proofs.YtldjbgonlbmeaaaDoor.T Go.Proofs.YtldjbgonlbmeaaaDoor.Dig Go.Proofs.YtldjbgonlbmeaaaDoorW.PrintWords Go.Proofs.YtldjbgonlbmeaaaDoorW.PrintLast
theorem rd_nat (D : List Int) (i : Nat) : rd D (i : Int) = D.getD i 0 := by unfold rd; rw [Int.toNat_natCast]
theorem set_same (D : List Int) (i : Nat) : D.set i (D.getD i 0) = D := by
 apply List.ext_getElem?
 intro j
 rw [List.getElem?_set]
 split
 ·rename_i h
  subst h
  split
  ·rename_i h; rw [List.getD_eq_getElem?_getD, List.getElem?_eq_getElem h]; rfl
  ·rename_i h; rw [List.getElem?_eq_none (by omega)]
 ·rfl
theorem rdep_kids {l : List Fm} {top : List Int} (hl : l.length ≤ 400) {i : Nat} (hi : i < l.length) {ks : List Nat} (hk : (l.getD i zFm).f3 = ks.map fun (k : Nat) => (k : Int)) (hb : ∀ k ∈ ks, i < k ∧ k < l.length) (hc : ks.length ≤ 400) {r : Int} :
  ∀ (d c : Nat) (D : List Int), c + d = ks.length → D.length = l.length → Low D →
   Ev (fun k => reticuleref07_Depth.l0 k l top (((ks.drop c).foldl (dk i) D).set i (min (((ks.drop c).foldl (dk i) D).getD i 0 + 1) 13)) ((i : Int) - 1)) r →
   Ev (fun k => reticuleref07_Depth.l1 k l top D (i : Int) (c : Int)) r := by
 have hw : wrap64 ((i : Int) - 1) = (i : Int) - 1 := by unfold wrap64; omega
 intro d
 induction d with
 | zero =>
  intro c D hcd hD hlow h
  rw [List.drop_of_length_le (by omega), List.foldl_nil] at h
  have hlo := hlow i
  refine Ev.step (fun k => ?_) h
  have hlen : ((l.getD i zFm).f3).length = ks.length := by rw [hk, List.length_map]
  rw [reticuleref07_Depth.l1, if_pos (by omega), if_pos (by omega), rdF_at, if_neg (by rw [hlen]; omega), if_pos (by omega), rd_nat, hw]
  by_cases h12 : D.getD i 0 ≤ 12
  ·rw [if_pos h12, Int.toNat_natCast, show min (D.getD i 0 + 1) 13 = D.getD i 0 + 1 by omega, show wrap64 (D.getD i 0 + 1) = D.getD i 0 + 1 by unfold wrap64; omega]
  ·rw [if_neg h12, show min (D.getD i 0 + 1) 13 = D.getD i 0 by omega, set_same]
 | succ d ih =>
  intro c D hcd hD hlow h
  have hcl : c < ks.length := by omega
  obtain ⟨hk1, hk2⟩ := hb ks[c] (List.getElem_mem hcl)
  have hlen : ((l.getD i zFm).f3).length = ks.length := by rw [hk, List.length_map]
  have hrd : rd (l.getD i zFm).f3 (c : Int) = (ks[c] : Int) := by
   rw [rd_nat, hk, List.getD_eq_getElem?_getD, List.getElem?_map, List.getElem?_eq_getElem hcl]; rfl
  have hwc : wrap64 ((c : Int) + 1) = ((c + 1 : Nat) : Int) := by unfold wrap64; omega
  rw [List.drop_eq_getElem_cons hcl, List.foldl_cons] at h
  obtain ⟨t, ht⟩ : ∃ t, t = ks[c] := ⟨_, rfl⟩
  rw [← ht] at h hk1 hk2 hrd
  have ihn := ih (c + 1) (dk i D t) (by omega) (by rw [dk_len, hD]) (hlow.dk i t) h
  clear h ih
  refine Ev.step (fun k => ?_) ihn
  rw [reticuleref07_Depth.l1, if_pos (show (0 : Int) ≤ (i : Int) by omega), if_pos (show (i : Int) < (l.length : Int) by omega), rdF_at, if_pos (show (c : Int) < (((l.getD i zFm).f3).length : Int) by rw [hlen]; omega), if_pos (show (0 : Int) ≤ (c : Int) by omega), hrd, if_pos (show (t : Int) > (i : Int) by omega), if_pos (show (t : Int) < (l.length : Int) by omega), if_pos (show (0 : Int) ≤ (t : Int) by omega), if_pos (show (t : Int) < (D.length : Int) by omega), if_pos (show (i : Int) < (D.length : Int) by omega), rd_nat, rd_nat, hwc]
  unfold dk
  by_cases hgt : D.getD t 0 > D.getD i 0
  ·rw [if_pos hgt, Int.toNat_natCast, show max (D.getD i 0) (D.getD t 0) = D.getD t 0 by omega]
  ·rw [if_neg hgt, show max (D.getD i 0) (D.getD t 0) = D.getD i 0 by omega, set_same]
theorem rdep_l0 {l : List Fm} {top : List Int} (hl : l.length ≤ 400) (hkin : Kin l) (hc : ∀ i, i < l.length → (l.getD i zFm).f3.length ≤ 400) {r : Int} (h : Ev (fun k => reticuleref07_Depth.l2 k l top (dps l l.length) 0 0) r) :
  ∀ (d j : Nat), j + d = l.length → Ev (fun k => reticuleref07_Depth.l0 k l top (dps l j) ((l.length : Int) - 1 - (j : Int))) r := by
 intro d
 induction d with
 | zero =>
  intro j hj
  refine Ev.step (fun k => ?_) h
  rw [reticuleref07_Depth.l0, if_neg (by omega), show j = l.length by omega]
 | succ d ih =>
  intro j hj
  obtain ⟨i, hi⟩ : ∃ i, i = l.length - 1 - j := ⟨_, rfl⟩
  have hil : i < l.length := by omega
  have e : (l.length : Int) - 1 - (j : Int) = (i : Int) := by omega
  have e2 : (l.length : Int) - 1 - ((j + 1 : Nat) : Int) = (i : Int) - 1 := by omega
  have hn := ih (j + 1) (by omega)
  rw [e2] at hn
  rw [e]
  have hw : wrap64 ((i : Int) - 1) = (i : Int) - 1 := by unfold wrap64; omega
  have hmap := kd_fo (i := i) (ps := (l.getD i zFm).f3) rfl (hkin i hil)
  have hd : dps l (j + 1) = dstep l (dps l j) i := by rw [hi]; rfl
  rw [hd] at hn
  unfold dstep at hn
  by_cases h1 : (l.getD i zFm).f0 = 1
  ·rw [if_pos h1] at hn
   have hkl : (kd l i).length = (l.getD i zFm).f3.length := by rw [← hmap, List.length_map]
   have := rdep_kids (top := top) hl hil hmap.symm (fun k hk => kd_lt hk) (by rw [hkl]; exact hc i hil) (r := r) (kd l i).length 0 (dps l j) (by omega) (dps_len l j) (Low.dps l j) (by simpa only [List.drop_zero] using hn)
   refine Ev.step (fun k => ?_) this
   rw [reticuleref07_Depth.l0, if_pos (by omega), if_pos (by omega), if_pos (by omega), rdF_at, if_pos h1]
   rfl
  ·rw [if_neg h1] at hn
   refine Ev.step (fun k => ?_) hn
   rw [reticuleref07_Depth.l0, if_pos (by omega), if_pos (by omega), if_pos (by omega), rdF_at, if_neg h1, hw]
theorem rdep_l2 {l : List Fm} {top : List Int} {D : List Int} (hD : D.length = l.length) (ht : top.length ≤ 400) :
  ∀ (d c : Nat) (m : Int), c + d = top.length → Ev (fun k => reticuleref07_Depth.l2 k l top D m (c : Int)) ((top.drop c).foldl (dtop l.length D) m) := by
 intro d
 induction d with
 | zero =>
  intro c m hc
  rw [List.drop_of_length_le (by omega), List.foldl_nil]
  refine Ev.step (f := fun _ => some m) (fun k => ?_) (Ev.now _)
  rw [reticuleref07_Depth.l2, if_neg (by omega)]
 | succ d ih =>
  intro c m hc
  have hcl : c < top.length := by omega
  have hrd : rd top (c : Int) = top[c] := by rw [rd_nat, List.getD_eq_getElem?_getD, List.getElem?_eq_getElem hcl]; rfl
  have hwc : wrap64 ((c : Int) + 1) = ((c + 1 : Nat) : Int) := by unfold wrap64; omega
  rw [List.drop_eq_getElem_cons hcl, List.foldl_cons]
  refine Ev.step (fun k => ?_) (ih (c + 1) (dtop l.length D m top[c]) (by omega))
  rw [reticuleref07_Depth.l2, if_pos (by omega), if_pos (by omega), hrd, hwc]
  unfold dtop
  by_cases h0 : top[c] ≥ 0
  ·rw [if_pos h0]
   by_cases h1 : top[c] < (l.length : Int)
   ·obtain ⟨t, ht⟩ : ∃ t : Nat, top[c] = (t : Int) := ⟨top[c].toNat, by omega⟩
    rw [if_pos h1, if_pos (show (0 : Int) ≤ top[c] from h0), if_pos (show top[c] < (D.length : Int) by omega), if_pos (show 0 ≤ top[c] ∧ top[c] < (l.length : Int) from ⟨h0, h1⟩), ht, rd_nat, Int.toNat_natCast]
    by_cases h2 : D.getD t 0 > m
    ·rw [if_pos h2, show max m (D.getD t 0) = D.getD t 0 by omega]
    ·rw [if_neg h2, show max m (D.getD t 0) = m by omega]
   ·rw [if_neg h1, if_neg (fun q => h1 q.2)]
  ·rw [if_neg h0, if_neg (fun q => h0 q.1)]
theorem rdep_any {l : List Fm} {top : List Int} (hl : l.length ≤ 400) (hkin : Kin l) (hc : ∀ i, i < l.length → (l.getD i zFm).f3.length ≤ 400) (ht : top.length ≤ 400) : Ev (fun k => reticuleref07_Depth.f k l top) (depth l top) := by
 have h := rdep_l0 (top := top) hl hkin hc (r := depth l top) (by have := rdep_l2 (l := l) (top := top) (dps_len l l.length) ht top.length 0 0 (by omega); rw [List.drop_zero] at this; exact this) l.length 0 (by omega)
 refine Ev.congr (fun k => ?_) h
 unfold reticuleref07_Depth.f
 rw [if_pos (by omega), if_pos (by omega), show wrap64 ((l.length : Int) - 1) = (l.length : Int) - 1 - ((0 : Nat) : Int) by unfold wrap64; omega]
 rfl
theorem lensF {l : List Fm} {F : Fo} (hf : Fl l F 0) (hs : l.length = F.size) (ha : F.all IsLeaf IsBr) (h4 : l.length ≤ 400) : ∀ i, i < l.length → (l.getD i zFm).f3.length ≤ 400 := fun i hi => by
 rcases hf.at ha i (Nat.zero_le _) (by omega) with ⟨f, hP, q⟩ | ⟨f, ks, hQ, q, hk2, hle, _⟩
 ·rw [q]; exact Nat.zero_le _
 ·rw [q]
  show (ks.pls (i + 1)).length ≤ 400
  rw [ks.pls_len]
  have := ks.num_le
  omega
theorem right_any {l : List Fm} {top : List Int} (hS : ∀ f ∈ l, f.f1.size ≤ 9223372036854775807 ∧ I64 f.f2) :
  (∃ F, Std l F ∧ top = F.pls 0 ∧ Ev (fun k => tree_Right.f k l top) true ∧ Ev (fun k => reticuleref07_Right.f k l top) true) ∨
  (Ev (fun k => tree_Right.f k l top) false ∧ Ev (fun k => reticuleref07_Right.f k l top) false) := by
 by_cases hl : 400 < l.length
 ·refine Or.inr ⟨Ev.congr (f := fun _ => some false) (fun k => ?_) (Ev.now _), Ev.congr (f := fun _ => some false) (fun k => ?_) (Ev.now _)⟩
  ·unfold tree_Right.f; rw [if_pos (by omega)]
  ·unfold reticuleref07_Right.f; rw [if_pos (by omega)]
 have hl : l.length ≤ 400 := by omega
 have hSi : ∀ i, i < l.length → (l.getD i zFm).f1.size ≤ 9223372036854775807 ∧ I64 (l.getD i zFm).f2 := fun i hi => by
  rw [List.getD_eq_getElem?_getD, List.getElem?_eq_getElem hi]; exact hS _ (List.getElem_mem hi)
 have stP : ∀ i, i < l.length → ∀ r, Ev (fun k => if okA (l.getD i zFm) = true then (tree_Right.l0 k l top l (l.length : Int) ((i + 1 : Nat) : Int)) else (some false)) r → Ev (fun k => tree_Right.l0 k l top l (l.length : Int) (i : Int)) r := fun i hi r h => by
  have hw : wrap64 ((i : Int) + 1) = ((i + 1 : Nat) : Int) := by unfold wrap64; omega
  refine Ev.step (f := fun k => (tree_alone.f k (l.getD i zFm).f0 (l.getD i zFm).f1 (l.getD i zFm).f2 (l.getD i zFm).f3 (l.getD i zFm).f4).bind fun t110 => (if t110 = true then (tree_Right.l0 k l top l (l.length : Int) ((i + 1 : Nat) : Int)) else (some false))) (fun k => ?_) ?_
  ·rw [tree_Right.l0, if_pos (by omega), if_pos (by omega), if_pos (by omega), rdF_at, hw]
  ·exact Ev.bind (f := fun k t110 => (if t110 = true then (tree_Right.l0 k l top l (l.length : Int) ((i + 1 : Nat) : Int)) else (some false))) (alone_any _ (hSi i hi).1) h
 have stR : ∀ i, i < l.length → ∀ r, Ev (fun k => if okA (l.getD i zFm) = true then (reticuleref07_Right.l0 k l top ((i + 1 : Nat) : Int)) else (some false)) r → Ev (fun k => reticuleref07_Right.l0 k l top (i : Int)) r := fun i hi r h => by
  have hw : wrap64 ((i : Int) + 1) = ((i + 1 : Nat) : Int) := by unfold wrap64; omega
  refine Ev.step (f := fun k => (reticuleref07_plain.f k (l.getD i zFm).f0 (l.getD i zFm).f1 (l.getD i zFm).f2 (l.getD i zFm).f3 (l.getD i zFm).f4).bind fun t131 => (if t131 = true then (reticuleref07_Right.l0 k l top ((i + 1 : Nat) : Int)) else (some false))) (fun k => ?_) ?_
  ·rw [reticuleref07_Right.l0, if_pos (by omega), if_pos (by omega), rdF_at, hw]
  ·exact Ev.bind (f := fun k t131 => (if t131 = true then (reticuleref07_Right.l0 k l top ((i + 1 : Nat) : Int)) else (some false))) (plain_any _) h
 have enP : ∀ r, Ev (fun k => tree_Right.l0 k l top l (l.length : Int) ((0 : Nat) : Int)) r → Ev (fun k => tree_Right.f k l top) r := fun r h => Ev.congr (fun k => by unfold tree_Right.f; rw [if_neg (by omega)]; rfl) h
 have enR : ∀ r, Ev (fun k => reticuleref07_Right.l0 k l top ((0 : Nat) : Int)) r → Ev (fun k => reticuleref07_Right.f k l top) r := fun r h => Ev.congr (fun k => by unfold reticuleref07_Right.f; rw [if_neg (by omega)]; rfl) h
 by_cases hA : ∀ i, i < l.length → okA (l.getD i zFm) = true
 ·have loop : ∀ r, Ev (fun k => (tree_walk.f k l top 0).bind fun bt111 => (if bt111.2 = true then (if bt111.1 = (l.length : Int) then ((tree_Depth.f l top).bind fun t113 => (some (decide (t113 ≤ 12)))) else (some false)) else (some false))) r →
    ∀ d i, i + d = l.length → Ev (fun k => tree_Right.l0 k l top l (l.length : Int) (i : Int)) r := fun r h d => by
   induction d with
   | zero => intro i hi; exact Ev.step (fun k => by rw [tree_Right.l0, if_neg (by omega)]) h
   | succ d ih => intro i hi; exact stP i (by omega) r (Ev.congr (fun k => by rw [if_pos (hA i (by omega))]) (ih (i + 1) (by omega)))
  have loopR : ∀ r, Ev (fun k => (reticuleref07_through.f k l top 0).bind fun t132 => (if t132 = (l.length : Int) then ((reticuleref07_Depth.f k l top).bind fun t133 => (some (decide (t133 ≤ 12)))) else (some false))) r →
    ∀ d i, i + d = l.length → Ev (fun k => reticuleref07_Right.l0 k l top (i : Int)) r := fun r h d => by
   induction d with
   | zero => intro i hi; exact Ev.step (fun k => by rw [reticuleref07_Right.l0, if_neg (by omega)]) h
   | succ d ih => intro i hi; exact stR i (by omega) r (Ev.congr (fun k => by rw [if_pos (hA i (by omega))]) (ih (i + 1) (by omega)))
  have inW : ∀ r, Ev (fun k => tree_walk.l0 k l ((0 : Nat) : Int) top (top.length : Int) ((0 : Nat) : Int)) r → Ev (fun k => tree_walk.f k l top 0) r := fun r h => Ev.step (fun k => by rw [tree_walk.f]; rfl) h
  have inT : ∀ r, Ev (fun k => reticuleref07_through.l0 k l top ((0 : Nat) : Int) ((0 : Nat) : Int)) r → Ev (fun k => reticuleref07_through.f k l top 0) r := fun r h => Ev.step (fun k => by rw [reticuleref07_through.f]; rfl) h
  have finP : ∀ r, Ev (fun k => (tree_walk.f k l top 0).bind fun bt111 => (if bt111.2 = true then (if bt111.1 = (l.length : Int) then ((tree_Depth.f l top).bind fun t113 => (some (decide (t113 ≤ 12)))) else (some false)) else (some false))) r → Ev (fun k => tree_Right.f k l top) r := fun r h => enP r (loop r h l.length 0 (by omega))
  have finR : ∀ r, Ev (fun k => (reticuleref07_through.f k l top 0).bind fun t132 => (if t132 = (l.length : Int) then ((reticuleref07_Depth.f k l top).bind fun t133 => (some (decide (t133 ≤ 12)))) else (some false))) r → Ev (fun k => reticuleref07_Right.f k l top) r := fun r h => enR r (loopR r h l.length 0 (by omega))
  rcases walk_any hl (fun i hi => ⟨hA i hi, (hSi i hi).2⟩) l.length 0 (by omega) (by omega) top 0 (by omega) with ⟨F, hF, aF, pF, wF, tF⟩ | ⟨⟨m, wF⟩, tF⟩
  ·rw [List.drop_zero] at pF
   have hFl := hF.le (Nat.zero_le _)
   rw [Nat.zero_add] at wF tF hFl
   by_cases hs : F.size = l.length
   ·have hdep : depth l top = min (F.dep : Int) 13 := by rw [← pF]; exact depth_fo hF aF.is
    have htop : top.length ≤ 400 := by rw [← pF, F.pls_len]; have := F.num_le; omega
    have hP := finP (decide (depth l top ≤ 12)) (Ev.bind (f := fun k bt111 => (if bt111.2 = true then (if bt111.1 = (l.length : Int) then ((tree_Depth.f l top).bind fun t113 => (some (decide (t113 ≤ 12)))) else (some false)) else (some false))) (inW _ wF) (Ev.congr (f := fun _ => some _) (fun k => by rw [if_pos rfl, if_pos (by omega)]; unfold tree_Depth.f; rw [if_pos (by omega)]; rfl) (Ev.now _)))
    have hR := finR (decide (depth l top ≤ 12)) (Ev.bind (f := fun k t132 => (if t132 = (l.length : Int) then ((reticuleref07_Depth.f k l top).bind fun t133 => (some (decide (t133 ≤ 12)))) else (some false))) (inT _ tF) (Ev.congr (f := fun k => (reticuleref07_Depth.f k l top).bind fun t133 => (some (decide (t133 ≤ 12)))) (fun k => by rw [if_pos (by omega)]) (Ev.bind (f := fun k t133 => (some (decide (t133 ≤ 12)))) (rdep_any hl (kin_fo hF hs.symm aF.is) (lensF hF hs.symm aF.is hl) htop) (Ev.now _))))
    by_cases hd : F.dep ≤ 12
    ·rw [decide_eq_true (by omega)] at hP hR
     exact Or.inl ⟨F, ⟨hF, hs.symm, aF, by omega, hd⟩, pF.symm, hP, hR⟩
    ·rw [decide_eq_false (by omega)] at hP hR
     exact Or.inr ⟨hP, hR⟩
   ·exact Or.inr ⟨finP _ (Ev.bind (f := fun k bt111 => (if bt111.2 = true then (if bt111.1 = (l.length : Int) then ((tree_Depth.f l top).bind fun t113 => (some (decide (t113 ≤ 12)))) else (some false)) else (some false))) (inW _ wF) (Ev.congr (f := fun _ => some false) (fun k => by rw [if_pos rfl, if_neg (by omega)]) (Ev.now _))),
     finR _ (Ev.bind (f := fun k t132 => (if t132 = (l.length : Int) then ((reticuleref07_Depth.f k l top).bind fun t133 => (some (decide (t133 ≤ 12)))) else (some false))) (inT _ tF) (Ev.congr (f := fun _ => some false) (fun k => by rw [if_neg (by omega)]) (Ev.now _)))⟩
  ·exact Or.inr ⟨finP _ (Ev.bind (f := fun k bt111 => (if bt111.2 = true then (if bt111.1 = (l.length : Int) then ((tree_Depth.f l top).bind fun t113 => (some (decide (t113 ≤ 12)))) else (some false)) else (some false))) (inW _ wF) (Ev.congr (f := fun _ => some false) (fun k => by rw [if_neg (by simp)]) (Ev.now _))),
     finR _ (Ev.bind (f := fun k t132 => (if t132 = (l.length : Int) then ((reticuleref07_Depth.f k l top).bind fun t133 => (some (decide (t133 ≤ 12)))) else (some false))) (inT _ tF) (Ev.congr (f := fun _ => some false) (fun k => by rw [if_neg (by omega)]) (Ev.now _)))⟩
 ·have bad : ∀ d i, i + d = l.length → (∀ j, j < i → okA (l.getD j zFm) = true) → Ev (fun k => tree_Right.l0 k l top l (l.length : Int) (i : Int)) false ∧ Ev (fun k => reticuleref07_Right.l0 k l top (i : Int)) false := fun d => by
   induction d with
   | zero => intro i hi hj; exact absurd (fun j q => hj j (by omega)) hA
   | succ d ih =>
    intro i hi hj
    by_cases ho : okA (l.getD i zFm) = true
    ·obtain ⟨a, b⟩ := ih (i + 1) (by omega) (fun j q => by
      by_cases e : j = i
      ·rw [e]; exact ho
      ·exact hj j (by omega))
     exact ⟨stP i (by omega) _ (Ev.congr (fun k => by rw [if_pos ho]) a), stR i (by omega) _ (Ev.congr (fun k => by rw [if_pos ho]) b)⟩
    ·exact ⟨stP i (by omega) _ (Ev.congr (f := fun _ => some false) (fun k => by rw [if_neg ho]) (Ev.now _)), stR i (by omega) _ (Ev.congr (f := fun _ => some false) (fun k => by rw [if_neg ho]) (Ev.now _))⟩
  obtain ⟨a, b⟩ := bad l.length 0 (by omega) (fun j q => absurd q (by omega))
  exact Or.inr ⟨enP _ a, enR _ b⟩
end Go.Proofs.YtldjbgonlbmeaaaDoor.F
end
section
/- The reference's text of a forest: in one line each, and laid out. -/
set_option linter.unusedSimpArgs false
set_option linter.unusedVariables false
namespace Go.Proofs.YtldjbgonlbmeaaaDoor.F
open Go.RowKit Go.Proofs.YtldjbgonlbmeaaaDoor.PA Go.Proofs.YtldjbgonlbmeaaaDoor.PB Go.Proofs.YtldjbgonlbmeaaaDoor.PR Go.Proofs.YtldjbgonlbmeaaaDoor.T Go.Proofs.YtldjbgonlbmeaaaDoor.Dig Go.Proofs.YtldjbgonlbmeaaaDoorW.PrintWords Go.Proofs.YtldjbgonlbmeaaaDoorW.PrintLast
abbrev bs (L : List UInt8) : ByteArray := ⟨L.toArray⟩
theorem bs_app (L M : List UInt8) : bs L ++ bs M = bs (L ++ M) := by
 apply ByteArray.ext
 rw [ByteArray.data_append]
 simp [bs]
theorem bs_size (L : List UInt8) : (bs L).size = L.length := by show L.toArray.size = _; simp
theorem bs_data (x : ByteArray) : bs x.data.toList = x := by apply ByteArray.ext; simp [bs]
theorem rd_at {x : List Int} {i : Nat} {t : Int} (hi : i < x.length) (h : x[i] = t) : rd x (i : Int) = t := by
 unfold rd
 rw [Int.toNat_natCast, List.getD_eq_getElem?_getD, List.getElem?_eq_getElem hi, h]; rfl
theorem drop_to {x : List Int} {i : Nat} {t : Int} {r : List Int} (h : x.drop i = t :: r) : ∃ hi : i < x.length, x[i] = t ∧ x.drop (i + 1) = r := by
 have hi : i < x.length := by
  apply Classical.byContradiction
  intro q
  rw [List.drop_of_length_le (by omega)] at h
  cases h
 rw [List.drop_eq_getElem_cons hi] at h
 injection h with h1 h2
 exact ⟨hi, h1, h2⟩
theorem drop_nil {x : List Int} {i : Nat} (h : x.drop i = []) : x.length ≤ i := by
 have := congrArg List.length h
 rw [List.length_drop] at this
 simp at this
 omega
theorem wp1 {i : Nat} (h : i ≤ 100000) : wrap64 ((i : Int) + 1) = ((i + 1 : Nat) : Int) := by unfold wrap64; omega
theorem txt_leaf {l : List Fm} {f : Fm} {n : Nat} (h : l.getD n zFm = ent f []) (hn : n < l.length) (hf : LeafOk f) : Ev (fun k => reticuleref08_text.f k l (n : Int)) (bs (leafT f)) := by
 refine Ev.step (f := fun _ => some (bs (leafT f))) (fun k => ?_) (Ev.now _)
 rw [reticuleref08_text.f, if_pos (by omega), if_pos (by omega), rdF_at, h, (ent_f f []).1, (ent_f f []).2.1, (ent_f f []).2.2.1]
 unfold leafT
 rcases hf with ⟨h0, _⟩ | ⟨h0, _, h2, h3⟩
 ·rw [if_pos h0, if_neg (by omega), bs_data]
 ·rw [if_neg (by omega), if_pos h0, if_pos h0]
  unfold reticuleref01_Digits.f
  rw [if_pos ⟨h2, h3⟩]; rfl
theorem rtx_go {l : List Fm} {x : List Int} {a c e : Int} {b : ByteArray} {o T : List UInt8} {i t : Nat} {r : ByteArray} (hi : i < x.length) (hi4 : i ≤ 100000) (hx : x[i] = (t : Int)) (hT : Ev (fun k => reticuleref08_text.f k l (t : Int)) (bs T)) (hb : o.length + T.length ≤ 1000000000000)
  (next : Ev (fun k => reticuleref08_text.l0 k l (bs (o ++ ((if (i == 0) = true then [] else [32]) ++ T))) ((i + 1 : Nat) : Int) a b c x e) r) : Ev (fun k => reticuleref08_text.l0 k l (bs o) (i : Int) a b c x e) r := by
 have hrd := rd_at hi hx
 have hw := wp1 hi4
 by_cases h0 : i = 0
 ·have e0 : (i == 0) = true := by simpa using h0
  rw [e0, if_pos rfl, List.nil_append] at next
  refine Ev.step (f := fun k => (reticuleref08_text.f k l (t : Int)).bind fun t126 => (if (bs o).size + t126.size ≤ 9223372036854775807 then (reticuleref08_text.l0 k l (bs o ++ t126) ((i + 1 : Nat) : Int) a b c x e) else none)) (fun k => ?_) ?_
  ·rw [reticuleref08_text.l0, if_pos (by omega), if_neg (by omega), if_pos (by omega), hrd, hw]
  ·refine Ev.bind (f := fun k t126 => (if (bs o).size + t126.size ≤ 9223372036854775807 then (reticuleref08_text.l0 k l (bs o ++ t126) ((i + 1 : Nat) : Int) a b c x e) else none)) hT (Ev.congr (fun k => ?_) next)
   rw [if_pos (by rw [bs_size, bs_size]; omega), bs_app]
 ·have e0 : (i == 0) = false := by simpa using h0
  rw [e0, if_neg (by decide), ← List.append_assoc] at next
  refine Ev.step (f := fun k => (reticuleref08_text.f k l (t : Int)).bind fun t124 => (if (bs o ++ bs [32]).size + t124.size ≤ 9223372036854775807 then (reticuleref08_text.l0 k l ((bs o ++ bs [32]) ++ t124) ((i + 1 : Nat) : Int) a b c x e) else none)) (fun k => ?_) ?_
  ·rw [reticuleref08_text.l0, if_pos (by omega), if_pos (by omega), if_pos (by rw [bs_size]; omega), if_pos (by omega), hrd, hw]
  ·refine Ev.bind (f := fun k t124 => (if (bs o ++ bs [32]).size + t124.size ≤ 9223372036854775807 then (reticuleref08_text.l0 k l ((bs o ++ bs [32]) ++ t124) ((i + 1 : Nat) : Int) a b c x e) else none)) hT (Ev.congr (fun k => ?_) next)
   rw [bs_app, if_pos (by rw [bs_size, bs_size, List.length_append]; simp; omega), bs_app]
theorem rtx_end {l : List Fm} {x : List Int} {a c e : Int} {b : ByteArray} {o : List UInt8} {i : Nat} (hi : x.length ≤ i) (hb : o.length ≤ 1000000000000) : Ev (fun k => reticuleref08_text.l0 k l (bs o) (i : Int) a b c x e) (bs (o ++ [41])) := by
 refine Ev.step (f := fun _ => some (bs (o ++ [41]))) (fun k => ?_) (Ev.now _)
 rw [reticuleref08_text.l0, if_neg (by omega), if_pos (by rw [bs_size]; omega)]
 show some (bs o ++ bs [41]) = _
 rw [bs_app]
theorem rtx_l {l : List Fm} (hl : l.length ≤ 400) : ∀ (F : Fo) (n i : Nat) (x : List Int) (o : List UInt8) (a : Int) (b : ByteArray) (c e : Int), Fl l F n → F.all LeafOk BrOk → n ≤ l.length → i ≤ n → x.drop i = F.pls n → o.length + F.size * 24 ≤ 1000000 →
  Ev (fun k => reticuleref08_text.l0 k l (bs o) (i : Int) a b c x e) (bs (o ++ F.tx (i == 0) ++ [41]))
 | .nil, n, i, x, o, a, b, c, e, _, _, _, _, hx, hb => by
  simp only [Fo.size] at hb
  have := rtx_end (l := l) (x := x) (a := a) (b := b) (c := c) (e := e) (o := o) (drop_nil hx) (by omega)
  simpa [Fo.tx] using this
 | .lf f r, n, i, x, o, a, b, c, e, h, ha, hn, hin, hx, hb => by
  simp only [Fo.size] at hb
  obtain ⟨hi, h1, h2⟩ := drop_to hx
  have hlt := (leaf_wb ha.1).2.1
  have hs1 : (if (i == 0) = true then ([] : List UInt8) else [32]).length ≤ 1 := by split <;> simp
  have := rtx_l hl r (n + 1) (i + 1) x (o ++ ((if (i == 0) = true then [] else [32]) ++ leafT f)) a b c e h.2.2 ha.2 h.1 (by omega) h2 (by rw [List.length_append, List.length_append]; omega)
  refine rtx_go hi (by omega) h1 (txt_leaf h.2.1 h.1 ha.1) (by omega) ?_
  rw [show (i + 1 == 0) = false by simp] at this
  simpa [Fo.tx, List.append_assoc] using this
 | .br f ks r, n, i, x, o, a, b, c, e, h, ha, hn, hin, hx, hb => by
  simp only [Fo.size] at hb
  obtain ⟨hi, h1, h2⟩ := drop_to hx
  have hc := (tx_cnt ks true ha.2.1).2
  have hle := h.2.2.1.le h.1
  have hs1 : (if (i == 0) = true then ([] : List UInt8) else [32]).length ≤ 1 := by split <;> simp
  have hT : Ev (fun k => reticuleref08_text.f k l (n : Int)) (bs ([40] ++ ks.tx true ++ [41])) := by
   refine Ev.step (fun k => ?_) (rtx_l hl ks (n + 1) 0 (ks.pls (n + 1)) [40] f.f0 f.f1 f.f2 f.f4 h.2.2.1 ha.2.1 h.1 (by omega) (by rw [List.drop_zero]) (by simp; omega))
   have h0 := ha.1.1
   rw [reticuleref08_text.f, if_pos (by omega), if_pos (by have := h.1; omega), rdF_at, h.2.1, (ent_f f _).1, (ent_f f _).2.1, (ent_f f _).2.2.1, (ent_f f _).2.2.2.1, (ent_f f _).2.2.2.2, if_neg (by omega), if_neg (by omega)]
   rfl
  have := rtx_l hl r (n + 1 + ks.size) (i + 1) x (o ++ ((if (i == 0) = true then [] else [32]) ++ ([40] ++ ks.tx true ++ [41]))) a b c e h.2.2.2 ha.2.2 hle (by omega) h2 (by simp only [List.length_append, List.length_cons, List.length_nil]; omega)
  refine rtx_go hi (by omega) h1 hT (by simp only [List.length_append, List.length_cons, List.length_nil]; omega) ?_
  rw [show (i + 1 == 0) = false by simp] at this
  simpa [Fo.tx, List.append_assoc] using this
theorem txt_br {l : List Fm} (hl : l.length ≤ 400) {f : Fm} {ks r : Fo} {n : Nat} (h : Fl l (.br f ks r) n) (ha : (Fo.br f ks r).all LeafOk BrOk) : Ev (fun k => reticuleref08_text.f k l (n : Int)) (bs ([40] ++ ks.tx true ++ [41])) := by
 have hle := h.2.2.1.le h.1
 refine Ev.step (fun k => ?_) (rtx_l hl ks (n + 1) 0 (ks.pls (n + 1)) [40] f.f0 f.f1 f.f2 f.f4 h.2.2.1 ha.2.1 h.1 (by omega) (by rw [List.drop_zero]) (by simp; omega))
 have h0 := ha.1.1
 rw [reticuleref08_text.f, if_pos (by omega), if_pos (by have := h.1; omega), rdF_at, h.2.1, (ent_f f _).1, (ent_f f _).2.1, (ent_f f _).2.2.1, (ent_f f _).2.2.2.1, (ent_f f _).2.2.2.2, if_neg (by omega), if_neg (by omega)]
 rfl
theorem rpr_go {l : List Fm} {x : List Int} {o T : List UInt8} {i t : Nat} {r : ByteArray × Int} (hi : i < x.length) (hi4 : i ≤ 100000) (hx : x[i] = (t : Int)) (hT : Ev (fun k => reticuleref08_text.f k l (t : Int)) (bs T)) (hb : o.length + T.length ≤ 1000000000)
  (next : Ev (fun k => reticuleref08_Print.l0 k l x (bs (o ++ (T ++ [10]))) ((i + 1 : Nat) : Int)) r) : Ev (fun k => reticuleref08_Print.l0 k l x (bs o) (i : Int)) r := by
 have hrd := rd_at hi hx
 have hw := wp1 hi4
 refine Ev.step (f := fun k => (reticuleref08_text.f k l (t : Int)).bind fun t129 => (if t129.size + 1 ≤ 9223372036854775807 then (if (bs o).size + (t129 ++ bs [10]).size ≤ 9223372036854775807 then (reticuleref08_Print.l0 k l x (bs o ++ (t129 ++ bs [10])) ((i + 1 : Nat) : Int)) else (none)) else (none))) (fun k => ?_) ?_
 ·rw [reticuleref08_Print.l0, if_pos (by omega), if_pos (by omega), hrd, hw]
 ·refine Ev.bind (f := fun k t129 => (if t129.size + 1 ≤ 9223372036854775807 then (if (bs o).size + (t129 ++ bs [10]).size ≤ 9223372036854775807 then (reticuleref08_Print.l0 k l x (bs o ++ (t129 ++ bs [10])) ((i + 1 : Nat) : Int)) else (none)) else (none))) hT (Ev.congr (fun k => ?_) next)
  rw [if_pos (by rw [bs_size]; omega), bs_app, if_pos (by rw [bs_size, bs_size, List.length_append]; simp; omega), bs_app]
theorem rpr_l {l : List Fm} (hl : l.length ≤ 400) : ∀ (F : Fo) (n i : Nat) (x : List Int) (o : List UInt8), Fl l F n → F.all LeafOk BrOk → n ≤ l.length → i ≤ n → x.drop i = F.pls n → o.length + F.size * 24 ≤ 1000000 →
  Ev (fun k => reticuleref08_Print.l0 k l x (bs o) (i : Int)) (bs (o ++ F.pl), 0)
 | .nil, n, i, x, o, _, _, _, _, hx, hb => by
  have := drop_nil hx
  refine Ev.step (f := fun _ => some (bs o, 0)) (fun k => ?_) (by simpa [Fo.pl] using Ev.now (bs o, (0 : Int)))
  rw [reticuleref08_Print.l0, if_neg (by omega)]
 | .lf f r, n, i, x, o, h, ha, hn, hin, hx, hb => by
  simp only [Fo.size] at hb
  obtain ⟨hi, h1, h2⟩ := drop_to hx
  have hlt := (leaf_wb ha.1).2.1
  have := rpr_l hl r (n + 1) (i + 1) x (o ++ (leafT f ++ [10])) h.2.2 ha.2 h.1 (by omega) h2 (by simp only [List.length_append, List.length_cons, List.length_nil]; omega)
  refine rpr_go hi (by omega) h1 (txt_leaf h.2.1 h.1 ha.1) (by omega) ?_
  simpa [Fo.pl, List.append_assoc] using this
 | .br f ks r, n, i, x, o, h, ha, hn, hin, hx, hb => by
  simp only [Fo.size] at hb
  obtain ⟨hi, h1, h2⟩ := drop_to hx
  have hc := (tx_cnt ks true ha.2.1).2
  have hle := h.2.2.1.le h.1
  have := rpr_l hl r (n + 1 + ks.size) (i + 1) x (o ++ (([40] ++ ks.tx true ++ [41]) ++ [10])) h.2.2.2 ha.2.2 hle (by omega) h2 (by simp only [List.length_append, List.length_cons, List.length_nil]; omega)
  refine rpr_go hi (by omega) h1 (txt_br hl h ha) (by simp only [List.length_append, List.length_cons, List.length_nil]; omega) ?_
  simpa [Fo.pl, List.append_assoc] using this
theorem Std.rprint {l : List Fm} {F : Fo} (h : Std l F) (hr : Ev (fun k => reticuleref07_Right.f k l (F.pls 0)) true) : Ev (fun k => reticuleref08_Print.f k l (F.pls 0)) (bs F.pl, 0) := by
 have h4 := h.small
 have hl := h.len
 refine Ev.bind (f := fun k t127 => (if t127 = true then (reticuleref08_Print.l0 k l (F.pls 0) (⟨#[]⟩ : ByteArray) 0) else (some ((⟨#[]⟩ : ByteArray), 3)))) hr ?_
 refine Ev.congr (fun k => ?_) (rpr_l (by omega) F 0 0 (F.pls 0) [] h.fl h.ok (by omega) (Nat.le_refl _) (by rw [List.drop_zero]) (by simp; omega))
 rw [if_pos rfl]; rfl
end Go.Proofs.YtldjbgonlbmeaaaDoor.F
end
section
/- The reference's text of a forest, laid out in lines. -/
set_option linter.unusedSimpArgs false
set_option linter.unusedVariables false
namespace Go.Proofs.YtldjbgonlbmeaaaDoor.F
open Go.RowKit Go.Proofs.YtldjbgonlbmeaaaDoor.PA Go.Proofs.YtldjbgonlbmeaaaDoor.PB Go.Proofs.YtldjbgonlbmeaaaDoor.PR Go.Proofs.YtldjbgonlbmeaaaDoor.T Go.Proofs.YtldjbgonlbmeaaaDoor.Dig Go.Proofs.YtldjbgonlbmeaaaDoorW.PrintWords Go.Proofs.YtldjbgonlbmeaaaDoorW.PrintLast
theorem rpy_find {l : List Fm} (hl : l.length ≤ 400) {at_ deep a c e : Int} {b : ByteArray} {r : ByteArray} : ∀ (F : Fo) (n i : Nat) (x : List Int), Fl l F n → F.all LeafOk BrOk → n ≤ l.length → i ≤ n → x.drop i = F.pls n →
  Ev (fun k => reticuleref08_pretty.j1 k l at_ deep ((i + F.lead : Nat) : Int) a b c x e) r → Ev (fun k => reticuleref08_pretty.l0 k l at_ deep (i : Int) a b c x e) r
 | .nil, n, i, x, _, _, _, _, hx, h => by
  have := drop_nil hx
  refine Ev.step (fun k => ?_) h
  rw [reticuleref08_pretty.l0, if_neg (by omega)]; rfl
 | .lf f rr, n, i, x, hf, ha, hn, hin, hx, h => by
  obtain ⟨hi, h1, h2⟩ := drop_to hx
  have hnl := hf.1
  have hk := ha.1.is
  have := rpy_find hl rr (n + 1) (i + 1) x hf.2.2 ha.2 hf.1 (by omega) h2 (by simpa [Fo.lead, Nat.add_assoc, Nat.add_comm 1] using h)
  refine Ev.step (fun k => ?_) this
  rw [reticuleref08_pretty.l0, if_pos (by omega), if_pos (by omega), rd_at hi h1, if_pos (by omega), if_pos (by omega), rdF_at, hf.2.1, (ent_f f _).1, if_neg (by rcases hk with q | q <;> omega), wp1 (by omega)]
 | .br f ks rr, n, i, x, hf, ha, hn, hin, hx, h => by
  obtain ⟨hi, h1, h2⟩ := drop_to hx
  have hnl := hf.1
  refine Ev.step (fun k => ?_) h
  rw [reticuleref08_pretty.l0, if_pos (by omega), if_pos (by omega), rd_at hi h1, if_pos (by omega), if_pos (by omega), rdF_at, hf.2.1, (ent_f f _).1, if_pos ha.1.1]; rfl
theorem rpy_leaf {l : List Fm} {f : Fm} {n : Nat} {deep : Int} (hl : l.length ≤ 400) (h : l.getD n zFm = ent f []) (hn : n < l.length) (hf : LeafOk f) : Ev (fun k => reticuleref08_pretty.f k l (n : Int) deep) (bs (leafT f)) := by
 have hk := hf.is
 have ht : Ev (fun k => (reticuleref08_text.f k l (n : Int)).bind fun t => some t) (bs (leafT f)) := Ev.bind (f := fun _ t => some t) (txt_leaf h hn hf) (Ev.now _)
 refine Ev.step (f := fun k => reticuleref08_pretty.l0 k l (n : Int) deep 0 f.f0 f.f1 f.f2 [] f.f4) (fun k => ?_) ?_
 ·rw [reticuleref08_pretty.f, if_pos (by omega), if_pos (by omega), rdF_at, h, (ent_f f _).1, (ent_f f _).2.1, (ent_f f _).2.2.1, (ent_f f _).2.2.2.1, (ent_f f _).2.2.2.2]
 refine Ev.step (f := fun k => reticuleref08_pretty.j1 k l (n : Int) deep 0 f.f0 f.f1 f.f2 [] f.f4) (fun k => ?_) ?_
 ·rw [reticuleref08_pretty.l0, if_neg (by simp)]
 refine Ev.step (f := fun k => reticuleref08_pretty.j2 k l (n : Int) deep 0 true f.f0 f.f1 f.f2 [] f.f4) (fun k => ?_) (Ev.step (fun k => ?_) ht)
 ·rw [reticuleref08_pretty.j1, if_neg (by rcases hk with q | q <;> omega)]
 ·rw [reticuleref08_pretty.j2, if_pos rfl]
theorem rpy_ind {l : List Fm} {x : List Int} {a c e : Int} {b : ByteArray} {first i t : Nat} {deep : Nat} (hd : deep ≤ 1000) (hi : i < x.length) (hx : x[i] = (t : Int)) (hi4 : i ≤ 100000) {T : List UInt8} {r : ByteArray} (hT : Ev (fun k => reticuleref08_pretty.f k l (t : Int) ((deep + 1 : Nat) : Int)) (bs T)) :
  ∀ (d j : Nat) (o : List UInt8), j + d = deep → o.length + 2 * d + T.length ≤ 1000000000 → Ev (fun k => reticuleref08_pretty.l1 k l (deep : Int) (first : Int) (bs (o ++ Lib.repeatL [32, 32] d ++ T)) ((i + 1 : Nat) : Int) a b c x e) r →
  Ev (fun k => reticuleref08_pretty.l2 k l (deep : Int) (first : Int) (bs o) (i : Int) (j : Int) a b c x e) r := by
 intro d
 induction d with
 | zero =>
  intro j o hj hb h
  have hw : wrap64 ((deep : Int) + 1) = ((deep + 1 : Nat) : Int) := wp1 (by omega)
  refine Ev.step (f := fun k => (reticuleref08_pretty.f k l (t : Int) ((deep + 1 : Nat) : Int)).bind fun t138 => (if (bs o).size + t138.size ≤ 9223372036854775807 then (reticuleref08_pretty.l1 k l (deep : Int) (first : Int) (bs o ++ t138) ((i + 1 : Nat) : Int) a b c x e) else (none))) (fun k => ?_) ?_
  ·rw [reticuleref08_pretty.l2, if_neg (by omega), if_pos (by omega), if_pos (by omega), rd_at hi hx, hw, wp1 hi4]
  ·refine Ev.bind (f := fun k t138 => (if (bs o).size + t138.size ≤ 9223372036854775807 then (reticuleref08_pretty.l1 k l (deep : Int) (first : Int) (bs o ++ t138) ((i + 1 : Nat) : Int) a b c x e) else (none))) hT (Ev.congr (fun k => ?_) h)
   rw [if_pos (by rw [bs_size, bs_size]; omega), bs_app]
   simp [Lib.repeatL]
 | succ d ih =>
  intro j o hj hb h
  have := ih (j + 1) (o ++ [32, 32]) (by omega) (by simp; omega) (by simpa [Lib.repeatL] using h)
  refine Ev.step (fun k => ?_) this
  rw [reticuleref08_pretty.l2, if_pos (by omega), if_pos (by rw [bs_size]; omega), wp1 (by omega)]
  show reticuleref08_pretty.l2 k l _ _ (bs o ++ bs [32, 32]) _ _ a b c x e = _
  rw [bs_app]
theorem rpy_line {l : List Fm} {x : List Int} {a c e : Int} {b : ByteArray} {first i t : Nat} {deep : Nat} (hd : deep ≤ 1000) (hi : i < x.length) (hx : x[i] = (t : Int)) (hi4 : i ≤ 100000) {T o : List UInt8} {r : ByteArray} (hT : Ev (fun k => reticuleref08_pretty.f k l (t : Int) ((deep + 1 : Nat) : Int)) (bs T)) (hfi : first ≤ i) (hb : o.length + T.length ≤ 100000000)
  (h : Ev (fun k => reticuleref08_pretty.l1 k l (deep : Int) (first : Int) (bs (o ++ (lineL deep ++ T))) ((i + 1 : Nat) : Int) a b c x e) r) :
  Ev (fun k => reticuleref08_pretty.l1 k l (deep : Int) (first : Int) (bs o) (i : Int) a b c x e) r := by
 have := rpy_ind (l := l) (a := a) (b := b) (c := c) (e := e) (first := first) (r := r) hd hi hx hi4 hT deep 0 (o ++ [10]) (by omega) (by simp; omega) (by
  have e1 : o ++ [10] ++ Lib.repeatL [32, 32] deep ++ T = o ++ (lineL deep ++ T) := by simp [lineL]
  rw [e1]; exact h)
 refine Ev.step (fun k => ?_) this
 rw [reticuleref08_pretty.l1, if_pos (by omega), if_pos (by omega), if_pos (by rw [bs_size]; omega)]
 show reticuleref08_pretty.l2 k l _ _ (bs o ++ bs [10]) _ _ a b c x e = _
 rw [bs_app]; rfl
theorem rpy_flat {l : List Fm} {x : List Int} {a c e : Int} {b : ByteArray} {first i t : Nat} {deep : Int} (hi : i < x.length) (hx : x[i] = (t : Int)) (hi4 : i ≤ 100000) {T o : List UInt8} {r : ByteArray} (hT : Ev (fun k => reticuleref08_text.f k l (t : Int)) (bs T)) (hfi : i < first) (hb : o.length + T.length ≤ 100000000)
  (h : Ev (fun k => reticuleref08_pretty.l1 k l deep (first : Int) (bs (o ++ ((if (i == 0) = true then [] else [32]) ++ T))) ((i + 1 : Nat) : Int) a b c x e) r) :
  Ev (fun k => reticuleref08_pretty.l1 k l deep (first : Int) (bs o) (i : Int) a b c x e) r := by
 have hrd := rd_at hi hx
 have hw := wp1 hi4
 by_cases h0 : i = 0
 ·have e0 : (i == 0) = true := by simpa using h0
  rw [e0, if_pos rfl, List.nil_append] at h
  refine Ev.step (f := fun k => (reticuleref08_text.f k l (t : Int)).bind fun t142 => (if (bs o).size + t142.size ≤ 9223372036854775807 then (reticuleref08_pretty.l1 k l deep (first : Int) (bs o ++ t142) ((i + 1 : Nat) : Int) a b c x e) else (none))) (fun k => ?_) ?_
  ·rw [reticuleref08_pretty.l1, if_pos (by omega), if_neg (by omega), if_neg (by omega), if_pos (by omega), hrd, hw]
  ·refine Ev.bind (f := fun k t142 => (if (bs o).size + t142.size ≤ 9223372036854775807 then (reticuleref08_pretty.l1 k l deep (first : Int) (bs o ++ t142) ((i + 1 : Nat) : Int) a b c x e) else (none))) hT (Ev.congr (fun k => ?_) h)
   rw [if_pos (by rw [bs_size, bs_size]; omega), bs_app]
 ·have e0 : (i == 0) = false := by simpa using h0
  rw [e0, if_neg (by decide)] at h
  refine Ev.step (f := fun k => (reticuleref08_text.f k l (t : Int)).bind fun t140 => (if 1 + t140.size ≤ 9223372036854775807 then (if (bs o).size + (bs [32] ++ t140).size ≤ 9223372036854775807 then (reticuleref08_pretty.l1 k l deep (first : Int) (bs o ++ (bs [32] ++ t140)) ((i + 1 : Nat) : Int) a b c x e) else (none)) else (none))) (fun k => ?_) ?_
  ·rw [reticuleref08_pretty.l1, if_pos (by omega), if_neg (by omega), if_pos (by omega), if_pos (by omega), hrd, hw]
  ·refine Ev.bind (f := fun k t140 => (if 1 + t140.size ≤ 9223372036854775807 then (if (bs o).size + (bs [32] ++ t140).size ≤ 9223372036854775807 then (reticuleref08_pretty.l1 k l deep (first : Int) (bs o ++ (bs [32] ++ t140)) ((i + 1 : Nat) : Int) a b c x e) else (none)) else (none))) hT (Ev.congr (fun k => ?_) h)
   rw [if_pos (by rw [bs_size]; omega), bs_app, if_pos (by rw [bs_size, bs_size, List.length_append]; simp; omega), bs_app]
theorem rpy_l {l : List Fm} (hl : l.length ≤ 400) : ∀ (F : Fo) (n i deep first : Nat) (seen : Bool) (x : List Int) (o : List UInt8) (a : Int) (b : ByteArray) (c e : Int), Fl l F n → F.all LeafOk BrOk → n ≤ l.length → i ≤ n → x.drop i = F.pls n → deep + F.size ≤ 410 →
  (seen = true ∧ first ≤ i ∨ seen = false ∧ first = i + F.lead) → o.length + F.size * 1000 ≤ 10000000 →
  Ev (fun k => reticuleref08_pretty.l1 k l (deep : Int) (first : Int) (bs o) (i : Int) a b c x e) (bs (o ++ F.py deep (i == 0) seen ++ [41]))
 | .nil, n, i, deep, first, seen, x, o, a, b, c, e, _, _, _, _, hx, _, _, hb => by
  simp only [Fo.size] at hb
  have := drop_nil hx
  refine Ev.step (f := fun _ => some (bs (o ++ [41]))) (fun k => ?_) (by simpa [Fo.py] using Ev.now (bs (o ++ [41])))
  rw [reticuleref08_pretty.l1, if_neg (by omega), if_pos (by rw [bs_size]; omega)]
  show some (bs o ++ bs [41]) = _
  rw [bs_app]
 | .lf f r, n, i, deep, first, seen, x, o, a, b, c, e, h, ha, hn, hin, hx, hd, hs, hb => by
  simp only [Fo.size, Fo.lead] at hb hs hd
  obtain ⟨hi, h1, h2⟩ := drop_to hx
  have hlt := (leaf_wb ha.1).2.1
  have e1 : (i + 1 == 0) = false := by simp
  have hll := T.lineL_len deep
  rcases hs with ⟨hs, hfi⟩ | ⟨hs, hfi⟩
  ·subst hs
   have := rpy_l hl r (n + 1) (i + 1) deep first true x (o ++ (lineL deep ++ leafT f)) a b c e h.2.2 ha.2 h.1 (by omega) h2 (by omega) (Or.inl ⟨rfl, by omega⟩) (by simp only [List.length_append]; omega)
   rw [e1] at this
   refine rpy_line (by omega) hi h1 (by omega) (rpy_leaf hl h.2.1 h.1 ha.1) hfi (by omega) ?_
   simpa [Fo.py, List.append_assoc] using this
  ·subst hs
   have hs1 : (if (i == 0) = true then ([] : List UInt8) else [32]).length ≤ 1 := by split <;> simp
   have := rpy_l hl r (n + 1) (i + 1) deep first false x (o ++ ((if (i == 0) = true then [] else [32]) ++ leafT f)) a b c e h.2.2 ha.2 h.1 (by omega) h2 (by omega) (Or.inr ⟨rfl, by omega⟩) (by simp only [List.length_append]; omega)
   rw [e1] at this
   refine rpy_flat hi h1 (by omega) (txt_leaf h.2.1 h.1 ha.1) (by omega) (by omega) ?_
   simpa [Fo.py, List.append_assoc] using this
 | .br f ks r, n, i, deep, first, seen, x, o, a, b, c, e, h, ha, hn, hin, hx, hd, hs, hb => by
  simp only [Fo.size, Fo.lead] at hb hs hd
  obtain ⟨hi, h1, h2⟩ := drop_to hx
  have hle := h.2.2.1.le h.1
  have e1 : (i + 1 == 0) = false := by simp
  have hll := T.lineL_len deep
  have hkn := ks.num_le
  have hfi : first ≤ i := by rcases hs with ⟨_, q⟩ | ⟨_, q⟩ <;> omega
  have hpc := (py_cnt ks (deep + 1) true false ha.2.1).2 (by omega)
  have hT : Ev (fun k => reticuleref08_pretty.f k l (n : Int) ((deep + 1 : Nat) : Int)) (bs ([40] ++ ks.py (deep + 1) true false ++ [41])) := by
   refine Ev.step (f := fun k => reticuleref08_pretty.l0 k l (n : Int) ((deep + 1 : Nat) : Int) ((0 : Nat) : Int) f.f0 f.f1 f.f2 (ks.pls (n + 1)) f.f4) (fun k => ?_) ?_
   ·rw [reticuleref08_pretty.f, if_pos (by omega), if_pos (by have := h.1; omega), rdF_at, h.2.1, (ent_f f _).1, (ent_f f _).2.1, (ent_f f _).2.2.1, (ent_f f _).2.2.2.1, (ent_f f _).2.2.2.2]; rfl
   refine rpy_find hl ks (n + 1) 0 _ h.2.2.1 ha.2.1 h.1 (by omega) (by rw [List.drop_zero]) ?_
   rw [Nat.zero_add]
   refine Ev.step (f := fun k => reticuleref08_pretty.j2 k l (n : Int) ((deep + 1 : Nat) : Int) (ks.lead : Int) ((ks.lead : Int) == ((ks.pls (n + 1)).length : Int)) f.f0 f.f1 f.f2 (ks.pls (n + 1)) f.f4) (fun k => ?_) ?_
   ·rw [reticuleref08_pretty.j1, if_pos ha.1.1]
   rw [ks.pls_len]
   by_cases hq : ks.lead = ks.num
   ·rw [show ((ks.lead : Int) == (ks.num : Int)) = true by simp [hq], Fo.py_flat ks _ _ hq]
    refine Ev.step (fun k => ?_) (Ev.bind (f := fun _ t => some t) (txt_br hl (r := r) h ha) (Ev.now _))
    rw [reticuleref08_pretty.j2, if_pos rfl]
   ·rw [show ((ks.lead : Int) == (ks.num : Int)) = false by rw [beq_eq_false_iff_ne]; omega]
    have := rpy_l hl ks (n + 1) 0 (deep + 1) ks.lead false (ks.pls (n + 1)) [40] f.f0 f.f1 f.f2 f.f4 h.2.2.1 ha.2.1 h.1 (by omega) (by rw [List.drop_zero]) (by omega) (Or.inr ⟨rfl, by omega⟩) (by simp; omega)
    refine Ev.step (fun k => ?_) this
    rw [reticuleref08_pretty.j2, if_neg (by decide)]; rfl
  have := rpy_l hl r (n + 1 + ks.size) (i + 1) deep first true x (o ++ (lineL deep ++ ([40] ++ ks.py (deep + 1) true false ++ [41]))) a b c e h.2.2.2 ha.2.2 hle (by omega) h2 (by omega) (Or.inl ⟨rfl, by omega⟩) (by simp only [List.length_append, List.length_cons, List.length_nil]; omega)
  rw [e1] at this
  refine rpy_line (by omega) hi h1 (by omega) hT hfi (by simp only [List.length_append, List.length_cons, List.length_nil]; omega) ?_
  simpa [Fo.py, List.append_assoc] using this
theorem rpy_br {l : List Fm} (hl : l.length ≤ 400) {f : Fm} {ks r : Fo} {n : Nat} (h : Fl l (.br f ks r) n) (ha : (Fo.br f ks r).all LeafOk BrOk) : Ev (fun k => reticuleref08_pretty.f k l (n : Int) 1) (bs ([40] ++ ks.py 1 true false ++ [41])) := by
 have hle := h.2.2.1.le h.1
 refine Ev.step (f := fun k => reticuleref08_pretty.l0 k l (n : Int) ((1 : Nat) : Int) ((0 : Nat) : Int) f.f0 f.f1 f.f2 (ks.pls (n + 1)) f.f4) (fun k => ?_) ?_
 ·rw [reticuleref08_pretty.f, if_pos (by omega), if_pos (by have := h.1; omega), rdF_at, h.2.1, (ent_f f _).1, (ent_f f _).2.1, (ent_f f _).2.2.1, (ent_f f _).2.2.2.1, (ent_f f _).2.2.2.2]; rfl
 refine rpy_find hl ks (n + 1) 0 _ h.2.2.1 ha.2.1 h.1 (by omega) (by rw [List.drop_zero]) ?_
 rw [Nat.zero_add]
 refine Ev.step (f := fun k => reticuleref08_pretty.j2 k l (n : Int) ((1 : Nat) : Int) (ks.lead : Int) ((ks.lead : Int) == ((ks.pls (n + 1)).length : Int)) f.f0 f.f1 f.f2 (ks.pls (n + 1)) f.f4) (fun k => ?_) ?_
 ·rw [reticuleref08_pretty.j1, if_pos ha.1.1]
 rw [ks.pls_len]
 by_cases hq : ks.lead = ks.num
 ·rw [show ((ks.lead : Int) == (ks.num : Int)) = true by simp [hq], Fo.py_flat ks _ _ hq]
  refine Ev.step (fun k => ?_) (Ev.bind (f := fun _ t => some t) (txt_br hl (r := r) h ha) (Ev.now _))
  rw [reticuleref08_pretty.j2, if_pos rfl]
 ·rw [show ((ks.lead : Int) == (ks.num : Int)) = false by rw [beq_eq_false_iff_ne]; have := ks.lead_le; omega]
  have := rpy_l hl ks (n + 1) 0 1 ks.lead false (ks.pls (n + 1)) [40] f.f0 f.f1 f.f2 f.f4 h.2.2.1 ha.2.1 h.1 (by omega) (by rw [List.drop_zero]) (by omega) (Or.inr ⟨rfl, by omega⟩) (by simp; omega)
  refine Ev.step (fun k => ?_) this
  rw [reticuleref08_pretty.j2, if_neg (by decide)]; rfl
theorem ryp_go {l : List Fm} {x : List Int} {o T : List UInt8} {i t : Nat} {r : ByteArray × Int} (hi : i < x.length) (hi4 : i ≤ 100000) (hx : x[i] = (t : Int)) (hT : Ev (fun k => reticuleref08_pretty.f k l (t : Int) 1) (bs T)) (hb : o.length + T.length ≤ 1000000000)
  (next : Ev (fun k => reticuleref08_Pretty.l0 k l x (bs (o ++ (T ++ [10]))) ((i + 1 : Nat) : Int)) r) : Ev (fun k => reticuleref08_Pretty.l0 k l x (bs o) (i : Int)) r := by
 have hrd := rd_at hi hx
 have hw := wp1 hi4
 refine Ev.step (f := fun k => (reticuleref08_pretty.f k l (t : Int) 1).bind fun t145 => (if t145.size + 1 ≤ 9223372036854775807 then (if (bs o).size + (t145 ++ bs [10]).size ≤ 9223372036854775807 then (reticuleref08_Pretty.l0 k l x (bs o ++ (t145 ++ bs [10])) ((i + 1 : Nat) : Int)) else (none)) else (none))) (fun k => ?_) ?_
 ·rw [reticuleref08_Pretty.l0, if_pos (by omega), if_pos (by omega), hrd, hw]
 ·refine Ev.bind (f := fun k t145 => (if t145.size + 1 ≤ 9223372036854775807 then (if (bs o).size + (t145 ++ bs [10]).size ≤ 9223372036854775807 then (reticuleref08_Pretty.l0 k l x (bs o ++ (t145 ++ bs [10])) ((i + 1 : Nat) : Int)) else (none)) else (none))) hT (Ev.congr (fun k => ?_) next)
  rw [if_pos (by rw [bs_size]; omega), bs_app, if_pos (by rw [bs_size, bs_size, List.length_append]; simp; omega), bs_app]
theorem ryp_l {l : List Fm} (hl : l.length ≤ 400) : ∀ (F : Fo) (n i : Nat) (x : List Int) (o : List UInt8), Fl l F n → F.all LeafOk BrOk → n ≤ l.length → i ≤ n → x.drop i = F.pls n → o.length + F.size * 1000 ≤ 10000000 →
  Ev (fun k => reticuleref08_Pretty.l0 k l x (bs o) (i : Int)) (bs (o ++ F.yl), 0)
 | .nil, n, i, x, o, _, _, _, _, hx, hb => by
  have := drop_nil hx
  refine Ev.step (f := fun _ => some (bs o, 0)) (fun k => ?_) (by simpa [Fo.yl] using Ev.now (bs o, (0 : Int)))
  rw [reticuleref08_Pretty.l0, if_neg (by omega)]
 | .lf f r, n, i, x, o, h, ha, hn, hin, hx, hb => by
  simp only [Fo.size] at hb
  obtain ⟨hi, h1, h2⟩ := drop_to hx
  have hlt := (leaf_wb ha.1).2.1
  have := ryp_l hl r (n + 1) (i + 1) x (o ++ (leafT f ++ [10])) h.2.2 ha.2 h.1 (by omega) h2 (by simp only [List.length_append, List.length_cons, List.length_nil]; omega)
  refine ryp_go hi (by omega) h1 (rpy_leaf hl h.2.1 h.1 ha.1) (by omega) ?_
  simpa [Fo.yl, List.append_assoc] using this
 | .br f ks r, n, i, x, o, h, ha, hn, hin, hx, hb => by
  simp only [Fo.size] at hb
  obtain ⟨hi, h1, h2⟩ := drop_to hx
  have hle := h.2.2.1.le h.1
  have hc := (py_cnt ks 1 true false ha.2.1).2 (by omega)
  have := ryp_l hl r (n + 1 + ks.size) (i + 1) x (o ++ (([40] ++ ks.py 1 true false ++ [41]) ++ [10])) h.2.2.2 ha.2.2 hle (by omega) h2 (by simp only [List.length_append, List.length_cons, List.length_nil]; omega)
  refine ryp_go hi (by omega) h1 (rpy_br hl h ha) (by simp only [List.length_append, List.length_cons, List.length_nil]; omega) ?_
  simpa [Fo.yl, List.append_assoc] using this
theorem Std.rpretty {l : List Fm} {F : Fo} (h : Std l F) (hr : Ev (fun k => reticuleref07_Right.f k l (F.pls 0)) true) : Ev (fun k => reticuleref08_Pretty.f k l (F.pls 0)) (bs F.yl, 0) := by
 have h4 := h.small
 have hl := h.len
 refine Ev.bind (f := fun k t143 => (if t143 = true then (reticuleref08_Pretty.l0 k l (F.pls 0) (⟨#[]⟩ : ByteArray) 0) else (some ((⟨#[]⟩ : ByteArray), 3)))) hr ?_
 refine Ev.congr (fun k => ?_) (ryp_l (by omega) F 0 0 (F.pls 0) [] h.fl h.ok (by omega) (Nat.le_refl _) (by rw [List.drop_zero]) (by simp; omega))
 rw [if_pos rfl]; rfl
end Go.Proofs.YtldjbgonlbmeaaaDoor.F
end
section
/- One of whatever forms as text: the reference tells what the program tells. -/
set_option linter.unusedSimpArgs false
set_option linter.unusedVariables false
namespace Go.Proofs.YtldjbgonlbmeaaaDoor.F
open Go.RowKit Go.Proofs.YtldjbgonlbmeaaaDoor.PA Go.Proofs.YtldjbgonlbmeaaaDoor.PB Go.Proofs.YtldjbgonlbmeaaaDoor.PR Go.Proofs.YtldjbgonlbmeaaaDoor.T Go.Proofs.YtldjbgonlbmeaaaDoor.Dig Go.Proofs.YtldjbgonlbmeaaaDoorW.PrintWords Go.Proofs.YtldjbgonlbmeaaaDoorW.PrintLast
def Cl (l : List Fm) (d : Nat) (t left : Nat) (out : List UInt8) : Prop :=
 ((wone l d (t : Int) left out).1 = true ∧ ∃ T, (wone l d (t : Int) left out).2.2 = out ++ T ∧ Ev (fun k => reticuleref08_may.f k l (t : Int) (left : Int)) ((wone l d (t : Int) left out).2.1 : Int) ∧ Ev (fun k => reticuleref08_text.f k l (t : Int)) (bs T)) ∨
 ((wone l d (t : Int) left out).1 = false ∧ ∃ m : Int, m < 0 ∧ Ev (fun k => reticuleref08_may.f k l (t : Int) (left : Int)) m)
theorem may_neg {l : List Fm} {at_ m : Int} (hm : m < 0) {i : Int} {a : Int} {b : ByteArray} {c e : Int} {x : List Int} : Ev (fun k => reticuleref08_may.l0 k l at_ m i a b c x e) m := by
 refine Ev.step (f := fun k => reticuleref08_may.j2 k l at_ m i false a b c x e) (fun k => ?_) (Ev.step (f := fun _ => some m) (fun k => by rw [reticuleref08_may.j2, if_neg (by decide)]) (Ev.now _))
 rw [reticuleref08_may.l0]
 by_cases h1 : i < (x.length : Int)
 ·rw [if_pos h1]
  by_cases h2 : a = 1
  ·rw [if_pos h2, decide_eq_false (by omega)]
  ·rw [if_neg h2]
 ·rw [if_neg h1]
theorem may_end {l : List Fm} {at_ m : Int} {i : Int} {a : Int} {b : ByteArray} {c e : Int} {x : List Int} (h : ¬ i < (x.length : Int) ∨ a ≠ 1) : Ev (fun k => reticuleref08_may.l0 k l at_ m i a b c x e) m := by
 refine Ev.step (f := fun k => reticuleref08_may.j2 k l at_ m i false a b c x e) (fun k => ?_) (Ev.step (f := fun _ => some m) (fun k => by rw [reticuleref08_may.j2, if_neg (by decide)]) (Ev.now _))
 rw [reticuleref08_may.l0]
 by_cases h1 : i < (x.length : Int)
 ·rw [if_pos h1, if_neg (h.resolve_left (fun q => q h1))]
 ·rw [if_neg h1]
theorem may_kids {l : List Fm} {M C : Nat} (hM : Mx M l) (hC : M + 24 = C) (hb : 400 * C ≤ 100000000000) {d at_ : Nat} (hd : l.length ≤ at_ + (d + 1)) (rec : ∀ t left out, t < l.length → l.length ≤ t + d → left ≤ 400 → Cl l d t left out) {b : ByteArray} {c e : Int} {x : List Int} :
  ∀ (ks : List Int) (i left : Nat) (pre o : List UInt8), x.drop i = ks → i + left ≤ 400 → o.length + left * C ≤ 100000000000 →
  ((wkids (wone l d) l.length (at_ : Int) ks (i == 0) left (pre ++ o)).1 = true ∧ ∃ T, (wkids (wone l d) l.length (at_ : Int) ks (i == 0) left (pre ++ o)).2.2 = pre ++ T ∧ Ev (fun k => reticuleref08_may.l0 k l (at_ : Int) (left : Int) (i : Int) 1 b c x e) ((wkids (wone l d) l.length (at_ : Int) ks (i == 0) left (pre ++ o)).2.1 : Int) ∧ Ev (fun k => reticuleref08_text.l0 k l (bs o) (i : Int) 1 b c x e) (bs T)) ∨
  ((wkids (wone l d) l.length (at_ : Int) ks (i == 0) left (pre ++ o)).1 = false ∧ ∃ m : Int, m < 0 ∧ Ev (fun k => reticuleref08_may.l0 k l (at_ : Int) (left : Int) (i : Int) 1 b c x e) m)
 | [], i, left, pre, o, hx, hl, ho => by
  have hi := drop_nil hx
  refine Or.inl ⟨rfl, o ++ [41], by simp [wkids], may_end (Or.inl (by omega)), rtx_end hi (by omega)⟩
 | k :: ks, i, left, pre, o, hx, hl, ho => by
  obtain ⟨hi, h1, h2⟩ := drop_to hx
  have hi4 : i ≤ 100000 := by omega
  have e1 : (i : Int) < (x.length : Int) := by omega
  have e2 : (left : Int) ≥ 0 := by omega
  have j2 : ∀ m, Ev (fun q => reticuleref08_may.j2 q l (at_ : Int) (left : Int) (i : Int) true 1 b c x e) m → Ev (fun q => reticuleref08_may.l0 q l (at_ : Int) (left : Int) (i : Int) 1 b c x e) m := fun m h => by
   refine Ev.step (fun q => ?_) h
   rw [reticuleref08_may.l0, if_pos e1, if_pos rfl, decide_eq_true e2]
  unfold wkids
  by_cases hk : k ≤ (at_ : Int) ∨ (l.length : Int) ≤ k
  ·rw [if_pos hk]
   refine Or.inr ⟨rfl, -1, by omega, j2 _ (Ev.step (f := fun _ => some (-1)) (fun q => ?_) (Ev.now _))⟩
   rw [reticuleref08_may.j2, if_pos rfl, if_pos (by omega), if_pos (by omega), rd_at hi h1]
   by_cases hk1 : k ≤ (at_ : Int)
   ·rw [if_pos hk1]
   ·rw [if_neg hk1, if_pos (by omega)]
  ·rw [if_neg hk]
   obtain ⟨t, rfl⟩ : ∃ t : Nat, k = (t : Int) := ⟨k.toNat, by omega⟩
   have goM : ∀ m, Ev (fun q => (reticuleref08_may.f q l (t : Int) (left : Int)).bind fun t139 => (reticuleref08_may.l0 q l (at_ : Int) t139 ((i + 1 : Nat) : Int) 1 b c x e)) m → Ev (fun q => reticuleref08_may.l0 q l (at_ : Int) (left : Int) (i : Int) 1 b c x e) m := fun m h => by
    refine j2 _ (Ev.step (fun q => ?_) h)
    rw [reticuleref08_may.j2, if_pos rfl, if_pos (by omega), if_pos (by omega), rd_at hi h1, if_neg (by omega), if_neg (by omega), wp1 hi4]
   obtain ⟨S, hS⟩ : ∃ S : List UInt8, S = if (i == 0) = true then [] else [32] := ⟨_, rfl⟩
   have hS1 : S.length ≤ 1 := by rw [hS]; split <;> simp
   have eS : (if (i == 0) = true then pre ++ o else pre ++ o ++ [32]) = pre ++ (o ++ S) := by rw [hS]; split <;> simp
   rw [eS]
   have hp := wone_pot hM d (t : Int) left (pre ++ (o ++ S))
   rw [hC] at hp
   rcases rec t left (pre ++ (o ++ S)) (by omega) (by omega) (by omega) with ⟨w1, T, w2, w3, w4⟩ | ⟨w1, m, hm, w3⟩
   ·have hleft : 0 < left := by
     apply Classical.byContradiction
     intro q
     have := (hp.1 (by omega)).1
     rw [w1] at this; cases this
    obtain ⟨p1, p2⟩ := hp.2 hleft
    obtain ⟨R, hR⟩ : ∃ R, R = wone l d (t : Int) left (pre ++ (o ++ S)) := ⟨_, rfl⟩
    rw [← hR] at w1 w2 w3 p1 p2 ⊢
    rw [if_pos w1, w2]
    rw [w2] at p1
    simp only [List.length_append] at p1
    have e2 : pre ++ (o ++ S) ++ T = pre ++ (o ++ (S ++ T)) := by simp
    rw [e2]
    have e0 : (i + 1 == 0) = false := by simp
    have ih := may_kids hM hC hb hd rec (b := b) (c := c) (e := e) (x := x) ks (i + 1) R.2.1 pre (o ++ (S ++ T)) h2 (by omega) (by simp only [List.length_append]; omega)
    rw [e0] at ih
    have hTb : o.length + T.length ≤ 1000000000000 := by omega
    rcases ih with ⟨v1, U, v2, v3, v4⟩ | ⟨v1, m, hm, v3⟩
    ·refine Or.inl ⟨v1, U, v2, goM _ (Ev.bind (f := fun q t139 => (reticuleref08_may.l0 q l (at_ : Int) t139 ((i + 1 : Nat) : Int) 1 b c x e)) w3 v3), rtx_go hi (by omega) h1 w4 hTb ?_⟩
     rw [← hS]; exact v4
    ·exact Or.inr ⟨v1, m, hm, goM _ (Ev.bind (f := fun q t139 => (reticuleref08_may.l0 q l (at_ : Int) t139 ((i + 1 : Nat) : Int) 1 b c x e)) w3 v3)⟩
   ·rw [if_neg (by rw [w1]; decide)]
    exact Or.inr ⟨w1, m, hm, goM _ (Ev.bind (f := fun q t139 => (reticuleref08_may.l0 q l (at_ : Int) t139 ((i + 1 : Nat) : Int) 1 b c x e)) w3 (may_neg hm))⟩
theorem may_one {l : List Fm} {M C : Nat} (hM : Mx M l) (hC : M + 24 = C) (hb : 400 * C ≤ 100000000000) : ∀ (d t left : Nat) (out : List UInt8), t < l.length → l.length ≤ t + d → left ≤ 400 → Cl l d t left out
 | 0, t, left, out, ht, hd, hl => by omega
 | d + 1, t, left, out, ht, hd, hl => by
  have hg : rd_T61 l (t : Int) = l.getD t zFm := rdF_at l t
  obtain ⟨m1, m2, m3⟩ := hM.at t
  have hlm : left * C ≤ 400 * C := Nat.mul_le_mul_right _ hl
  unfold Cl wone
  rw [Int.toNat_natCast]
  by_cases h0 : left = 0
  ·subst h0
   rw [if_pos rfl]
   refine Or.inr ⟨rfl, -1, by omega, Ev.step (f := fun k => reticuleref08_may.j0 k l (t : Int) ((0 : Nat) : Int) true (l.getD t zFm).f0 (l.getD t zFm).f1 (l.getD t zFm).f2 (l.getD t zFm).f3 (l.getD t zFm).f4) (fun k => ?_) (Ev.step (f := fun _ => some (-1)) (fun k => by rw [reticuleref08_may.j0, if_pos rfl]) (Ev.now _))⟩
   rw [reticuleref08_may.f, if_pos (by omega), if_pos (by omega), if_pos (by omega), hg]
  ·rw [if_neg h0]
   have hw : wrap64 ((left : Int) - 1) = ((left - 1 : Nat) : Int) := by unfold wrap64; omega
   have goM : ∀ m, ((l.getD t zFm).f0 = 1 ∨ (l.getD t zFm).f0 = 3 ∨ (l.getD t zFm).f0 = 4) → Ev (fun k => reticuleref08_may.l0 k l (t : Int) ((left - 1 : Nat) : Int) ((0 : Nat) : Int) (l.getD t zFm).f0 (l.getD t zFm).f1 (l.getD t zFm).f2 (l.getD t zFm).f3 (l.getD t zFm).f4) m → Ev (fun k => reticuleref08_may.f k l (t : Int) (left : Int)) m := fun m hk h => by
    refine Ev.step (f := fun k => reticuleref08_may.j0 k l (t : Int) (left : Int) false (l.getD t zFm).f0 (l.getD t zFm).f1 (l.getD t zFm).f2 (l.getD t zFm).f3 (l.getD t zFm).f4) (fun k => ?_) (Ev.step (fun k => ?_) h)
    ·rw [reticuleref08_may.f, if_pos (by omega), if_pos (by omega), if_neg (by omega), hg]
     by_cases k1 : (l.getD t zFm).f0 = 1
     ·rw [if_pos k1]
     ·rw [if_neg k1]
      by_cases k3 : (l.getD t zFm).f0 = 3
      ·rw [if_pos k3]
      ·rw [if_neg k3, show ((l.getD t zFm).f0 != 4) = false by rw [bne_eq_false_iff_eq]; omega]
    ·rw [reticuleref08_may.j0, if_neg (by decide), hw]; rfl
   by_cases k4 : (l.getD t zFm).f0 = 4
   ·rw [if_pos k4]
    refine Or.inl ⟨rfl, text (l.getD t zFm).f2, rfl, goM _ (Or.inr (Or.inr k4)) (may_end (Or.inr (by omega))), Ev.step (f := fun _ => some (bs (text (l.getD t zFm).f2))) (fun k => ?_) (Ev.now _)⟩
    rw [reticuleref08_text.f, if_pos (by omega), if_pos (by omega), hg, if_neg (by omega), if_pos k4]
    unfold reticuleref01_Digits.f
    rw [if_pos ⟨m2, m3⟩]; rfl
   ·rw [if_neg k4]
    by_cases k3 : (l.getD t zFm).f0 = 3
    ·rw [if_pos k3]
     refine Or.inl ⟨rfl, (l.getD t zFm).f1.data.toList, rfl, goM _ (Or.inr (Or.inl k3)) (may_end (Or.inr (by omega))), Ev.step (f := fun _ => some (bs (l.getD t zFm).f1.data.toList)) (fun k => ?_) (Ev.now _)⟩
     rw [reticuleref08_text.f, if_pos (by omega), if_pos (by omega), hg, if_pos k3, bs_data]
    ·rw [if_neg k3]
     by_cases k1 : (l.getD t zFm).f0 = 1
     ·rw [if_pos k1]
      have hmul : left * C = (left - 1) * C + C := by
       obtain ⟨q, rfl⟩ : ∃ q, left = q + 1 := ⟨left - 1, by omega⟩
       rw [Nat.add_sub_cancel, Nat.succ_mul]
      have := may_kids hM hC hb (d := d) (at_ := t) hd (fun t left out a b c => may_one hM hC hb d t left out a b c) (b := (l.getD t zFm).f1) (c := (l.getD t zFm).f2) (e := (l.getD t zFm).f4) (x := (l.getD t zFm).f3) (l.getD t zFm).f3 0 (left - 1) out [40] (by rw [List.drop_zero]) (by omega) (by simp only [List.length_cons, List.length_nil]; omega)
      rw [show ((0 : Nat) == 0) = true from rfl] at this
      rcases this with ⟨v1, U, v2, v3, v4⟩ | ⟨v1, m, hm, v3⟩
      ·refine Or.inl ⟨v1, U, v2, goM _ (Or.inl k1) (by rw [k1]; exact v3), Ev.step (fun k => ?_) v4⟩
       rw [reticuleref08_text.f, if_pos (by omega), if_pos (by omega), hg, if_neg k3, if_neg k4, k1]; rfl
      ·exact Or.inr ⟨v1, m, hm, goM _ (Or.inl k1) (by rw [k1]; exact v3)⟩
     ·rw [if_neg k1]
      refine Or.inr ⟨rfl, -1, by omega, Ev.step (f := fun k => reticuleref08_may.j0 k l (t : Int) (left : Int) true (l.getD t zFm).f0 (l.getD t zFm).f1 (l.getD t zFm).f2 (l.getD t zFm).f3 (l.getD t zFm).f4) (fun k => ?_) (Ev.step (f := fun _ => some (-1)) (fun k => by rw [reticuleref08_may.j0, if_pos rfl]) (Ev.now _))⟩
      rw [reticuleref08_may.f, if_pos (by omega), if_pos (by omega), if_neg (by omega), hg, if_neg k1, if_neg k3, show ((l.getD t zFm).f0 != 4) = true by rw [bne_iff_ne]; exact k4]
theorem one_any {l : List Fm} (hM : Mx 16777216 l) (at_ : Int) : Ev (fun k => reticuleref08_One.f k l at_) (oneS l at_) := by
 unfold oneS
 by_cases h : at_ < 0 ∨ (l.length : Int) ≤ at_
 ·rw [if_pos h]
  refine Ev.congr (f := fun k => reticuleref08_One.j0 k l at_ true) (fun k => ?_) (Ev.step (f := fun _ => some (⟨#[]⟩, 2)) (fun k => by rw [reticuleref08_One.j0, if_pos rfl]) (Ev.now _))
  unfold reticuleref08_One.f
  by_cases h0 : at_ < 0
  ·rw [if_pos h0]
  ·rw [if_neg h0, decide_eq_true (by omega)]
 ·rw [if_neg h]
  obtain ⟨t, rfl⟩ : ∃ t : Nat, at_ = (t : Int) := ⟨at_.toNat, by omega⟩
  have go : ∀ r, Ev (fun k => (reticuleref08_may.f k l (t : Int) ((400 : Nat) : Int)).bind fun t130 => (if t130 < 0 then (some ((⟨#[]⟩ : ByteArray), 3)) else ((reticuleref08_text.f k l (t : Int)).bind fun t131 => (some (t131, 0))))) r → Ev (fun k => reticuleref08_One.f k l (t : Int)) r := fun r h => by
   refine Ev.congr (f := fun k => reticuleref08_One.j0 k l (t : Int) false) (fun k => ?_) (Ev.step (fun k => by rw [reticuleref08_One.j0, if_neg (by decide)]; rfl) h)
   unfold reticuleref08_One.f
   rw [if_neg (by omega), decide_eq_false (by omega)]
  rcases may_one hM (C := 16777240) rfl (by decide) l.length t 400 [] (by omega) (by omega) (Nat.le_refl _) with ⟨w1, T, w2, w3, w4⟩ | ⟨w1, m, hm, w3⟩
  ·rw [if_pos w1, w2, List.nil_append]
   refine go _ (Ev.bind (f := fun k t130 => (if t130 < 0 then (some ((⟨#[]⟩ : ByteArray), 3)) else ((reticuleref08_text.f k l (t : Int)).bind fun t131 => (some (t131, 0))))) w3 (Ev.congr (f := fun k => (reticuleref08_text.f k l (t : Int)).bind fun t131 => (some (t131, 0))) (fun k => by rw [if_neg (by omega)]) (Ev.bind (f := fun _ t131 => some (t131, 0)) w4 (Ev.now _))))
  ·rw [if_neg (by rw [w1]; decide)]
   exact go _ (Ev.bind (f := fun k t130 => (if t130 < 0 then (some ((⟨#[]⟩ : ByteArray), 3)) else ((reticuleref08_text.f k l (t : Int)).bind fun t131 => (some (t131, 0))))) w3 (Ev.congr (f := fun _ => some (⟨#[]⟩, 3)) (fun k => by rw [if_pos hm]) (Ev.now _)))
end Go.Proofs.YtldjbgonlbmeaaaDoor.F
end
section
/- Forests of the same text are the same. -/
set_option linter.unusedSimpArgs false
set_option linter.unusedVariables false
namespace Go.Proofs.YtldjbgonlbmeaaaDoor.F
open Go.RowKit Go.Proofs.YtldjbgonlbmeaaaDoor.PA Go.Proofs.YtldjbgonlbmeaaaDoor.PB Go.Proofs.YtldjbgonlbmeaaaDoor.T Go.Proofs.YtldjbgonlbmeaaaDoor.Dig Go.Proofs.YtldjbgonlbmeaaaDoorW.PrintWords Go.Proofs.YtldjbgonlbmeaaaDoorW.PrintLast
def Hd (f g : Fm) : Prop := f.f0 = g.f0 ∧ f.f1 = g.f1 ∧ f.f2 = g.f2
def Sim : Fo → Fo → Prop
 | .nil, .nil => True
 | .lf f r, .lf g s => Hd f g ∧ Sim r s
 | .br f ks r, .br g js s => Hd f g ∧ Sim ks js ∧ Sim r s
 | _, _ => False
theorem Hd.leaf {f g : Fm} (h : Hd f g) : leafT f = leafT g := by unfold leafT; rw [h.1, h.2.1, h.2.2]
theorem Hd.lok {f g : Fm} (h : Hd f g) (k : LeafOk f) : LeafOk g := by unfold LeafOk at k ⊢; rw [← h.1, ← h.2.1, ← h.2.2]; exact k
theorem Hd.bok {f g : Fm} (h : Hd f g) (k : BrOk f) : BrOk g := by unfold BrOk at k ⊢; rw [← h.1, ← h.2.1, ← h.2.2]; exact k
theorem Sim.all : ∀ {F G : Fo}, Sim F G → F.all LeafOk BrOk → G.all LeafOk BrOk
 | .nil, .nil, _, _ => trivial
 | .lf f r, .lf g s, h, k => ⟨h.1.lok k.1, Sim.all h.2 k.2⟩
 | .br f ks r, .br g js s, h, k => ⟨h.1.bok k.1, Sim.all h.2.1 k.2.1, Sim.all h.2.2 k.2.2⟩
theorem Sim.dims : ∀ {F G : Fo}, Sim F G → F.size = G.size ∧ F.dep = G.dep ∧ F.num = G.num
 | .nil, .nil, _ => ⟨rfl, rfl, rfl⟩
 | .lf f r, .lf g s, h => by
  obtain ⟨a, b, c⟩ := Sim.dims h.2
  simp only [Fo.size, Fo.dep, Fo.num, a, b, c]
  exact ⟨trivial, trivial, trivial⟩
 | .br f ks r, .br g js s, h => by
  obtain ⟨a, b, c⟩ := Sim.dims h.2.2
  obtain ⟨a', b', c'⟩ := Sim.dims h.2.1
  simp only [Fo.size, Fo.dep, Fo.num, a, b, c, a', b', c']
  exact ⟨trivial, trivial, trivial⟩
theorem Sim.pls : ∀ {F G : Fo}, Sim F G → ∀ n, F.pls n = G.pls n
 | .nil, .nil, _, _ => rfl
 | .lf f r, .lf g s, h, n => by simp only [Fo.pls, Sim.pls h.2]
 | .br f ks r, .br g js s, h, n => by simp only [Fo.pls, Sim.pls h.2.2, (Sim.dims h.2.1).1]
theorem Sim.tx : ∀ {F G : Fo}, Sim F G → ∀ b, F.tx b = G.tx b
 | .nil, .nil, _, _ => rfl
 | .lf f r, .lf g s, h, b => by simp only [Fo.tx, Sim.tx h.2, h.1.leaf]
 | .br f ks r, .br g js s, h, b => by simp only [Fo.tx, Sim.tx h.2.2, Sim.tx h.2.1]
theorem Sim.pl : ∀ {F G : Fo}, Sim F G → F.pl = G.pl
 | .nil, .nil, _ => rfl
 | .lf f r, .lf g s, h => by simp only [Fo.pl, Sim.pl h.2, h.1.leaf]
 | .br f ks r, .br g js s, h => by simp only [Fo.pl, Sim.pl h.2.2, Sim.tx h.2.1]
theorem Sim.at {l m : List Fm} : ∀ {F G : Fo} {n : Nat}, Sim F G → Fl l F n → Fl m G n → ∀ i, n ≤ i → i < n + F.size → Hd (l.getD i zFm) (m.getD i zFm) ∧ (l.getD i zFm).f3 = (m.getD i zFm).f3
 | .nil, .nil, n, _, _, _, i, h1, h2 => by simp only [Fo.size] at h2; omega
 | .lf f r, .lf g s, n, h, a, b, i, h1, h2 => by
  simp only [Fo.size] at h2
  by_cases e : i = n
  ·subst e; rw [a.2.1, b.2.1]; exact ⟨h.1, rfl⟩
  ·exact Sim.at h.2 a.2.2 b.2.2 i (by omega) (by omega)
 | .br f ks r, .br g js s, n, h, a, b, i, h1, h2 => by
  simp only [Fo.size] at h2
  have hz := (Sim.dims h.2.1).1
  by_cases e : i = n
  ·subst e; rw [a.2.1, b.2.1]; exact ⟨h.1, Sim.pls h.2.1 _⟩
  ·by_cases hk : i < n + 1 + ks.size
   ·exact Sim.at h.2.1 a.2.2.1 b.2.2.1 i (by omega) (by omega)
   ·refine Sim.at h.2.2 a.2.2.2 (by rw [hz]; exact b.2.2.2) i (by omega) (by omega)
end Go.Proofs.YtldjbgonlbmeaaaDoor.F
end
