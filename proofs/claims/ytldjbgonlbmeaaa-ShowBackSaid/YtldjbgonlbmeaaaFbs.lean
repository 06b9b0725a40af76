/- TxtLib, Ps, Pr, Wkn, Psp, Tok, Psq, Fo, Fop, Fot, Fod, For, Fos, Rd, Tot, Liv -/
import Derived.Test.YtldjbgonlbmeaaaBsa
import Derived.Lib.ItoaNum
import Derived.Test.YtldjbgonlbmeaaaPBx1
import Derived.Test.YtldjbgonlbmeaaaPAx1
import Derived.Laws.Strings
import Derived.Test.YtldjbgonlbmeaaaPBx2
import Derived.Test.YtldjbgonlbmeaaaPAx5
import Derived.Test.YtldjbgonlbmeaaaNm
import Derived.Test.YtldjbgonlbmeaaaKid
import Derived.Test.YtldjbgonlbmeaaaDpp
import Derived.Test.YtldjbgonlbmeaaaPrt
import Derived.Test.YtldjbgonlbmeaaaPCx1
set_option linter.unusedSimpArgs false
set_option linter.unusedVariables false
section
/- Plain facts on decimal digits as bytes: what a text says, and which texts are the text of a number. -/
set_option linter.unusedSimpArgs false
namespace Go.Proofs.Ytldjbgonlbmeaaa.Dig

def isd (c : UInt8) : Bool := decide (48 ≤ c.toNat) && decide (c.toNat ≤ 57)
def dval (l : List UInt8) : Nat := l.foldl (fun n c => n * 10 + (c.toNat - 48)) 0
theorem dval_app (l : List UInt8) (c : UInt8) : dval (l ++ [c]) = dval l * 10 + (c.toNat - 48) := by simp [dval]
theorem dig_nat {n : Nat} (h : n < 10) : (UInt8.ofNat (48 + n)).toNat = 48 + n := by
 rw [UInt8.toNat_ofNat']
 omega
theorem isd_nat {n : Nat} (h : n < 10) : isd (UInt8.ofNat (48 + n)) = true := by simp [isd, dig_nat h]; omega
theorem dec_val : ∀ n : Nat, dval (dec n) = n ∧ ∀ c ∈ dec n, isd c = true := by
 intro n
 induction n using Nat.strongRecOn with
 | ind n ih =>
  by_cases h : n < 10
  ·rw [dec_small h]
   refine ⟨by have := dig_nat h; simp only [dval, List.foldl_cons, List.foldl_nil, this]; omega, fun c hc => ?_⟩
   rw [List.mem_singleton.1 hc]
   exact isd_nat h
  ·obtain ⟨h1, h2⟩ := ih (n / 10) (by omega)
   rw [dec_big h]
   refine ⟨by rw [dval_app, h1, dig_nat (by omega)]; omega, fun c hc => ?_⟩
   rcases List.mem_append.1 hc with hc | hc
   ·exact h2 c hc
   ·rw [List.mem_singleton.1 hc]
    exact isd_nat (by omega)
theorem dec_head : ∀ n : Nat, n ≠ 0 → ∃ c r, dec n = c :: r ∧ c.toNat ≠ 48 := by
 intro n
 induction n using Nat.strongRecOn with
 | ind n ih =>
  intro hn
  by_cases h : n < 10
  ·rw [dec_small h]
   exact ⟨_, [], rfl, by rw [dig_nat h]; omega⟩
  ·obtain ⟨c, r, h1, h2⟩ := ih (n / 10) (by omega) (by omega)
   rw [dec_big h, h1]
   exact ⟨c, r ++ _, rfl, h2⟩
theorem dec_of : ∀ (k : Nat) (l : List UInt8), l.length = k + 1 → (∀ c ∈ l, isd c = true) → (∀ c r, l = c :: r → c.toNat ≠ 48) → dec (dval l) = l ∧ dval l ≠ 0
 | 0, l, hl, hd, hh => by
  obtain ⟨c, rfl⟩ := List.length_eq_one_iff.1 hl
  have h1 := hd c (by simp)
  have h2 := hh c [] rfl
  simp only [isd, Bool.and_eq_true, decide_eq_true_eq] at h1
  have hv : dval [c] = c.toNat - 48 := by simp [dval]
  rw [hv, dec_small (by omega)]
  refine ⟨?_, by omega⟩
  congr 1
  apply UInt8.toNat_inj.1
  rw [dig_nat (by omega)]
  omega
 | k + 1, l, hl, hd, hh => by
  obtain ⟨r, c, rfl⟩ : ∃ r c, l = r ++ [c] := ⟨l.dropLast, l.getLast (by intro e; rw [e] at hl; simp at hl), (List.dropLast_concat_getLast _).symm⟩
  have hr : r.length = k + 1 := by simp at hl; omega
  have h1 := hd c (by simp)
  simp only [isd, Bool.and_eq_true, decide_eq_true_eq] at h1
  obtain ⟨i1, i2⟩ := dec_of k r hr (fun x hx => hd x (List.mem_append_left _ hx)) (fun x t ht => hh x (t ++ [c]) (by rw [ht]; rfl))
  have hv : dval (r ++ [c]) = dval r * 10 + (c.toNat - 48) := dval_app r c
  have hbig : ¬ dval (r ++ [c]) < 10 := by omega
  rw [dec_big hbig, hv]
  refine ⟨?_, by omega⟩
  rw [show (dval r * 10 + (c.toNat - 48)) / 10 = dval r by omega, show (dval r * 10 + (c.toNat - 48)) % 10 = c.toNat - 48 by omega, i1]
  congr 2
  apply UInt8.toNat_inj.1
  rw [dig_nat (by omega)]
  omega
theorem text_inj {a b : Int} (h : text a = text b) : a = b := by
 have hd : ∀ n : Nat, ∀ c ∈ dec n, c ≠ 45 := fun n c hc e => by
  have := (dec_val n).2 c hc
  subst e
  exact absurd this (by decide)
 have nn : ∀ n m : Nat, dec n ≠ 45 :: dec m := fun n m e => hd n 45 (by rw [e]; simp) rfl
 unfold text at h
 split at h <;> split at h
 ·have := congrArg dval (List.cons.inj h).2
  rw [(dec_val _).1, (dec_val _).1] at this
  omega
 ·exact absurd h.symm (nn _ _)
 ·exact absurd h (nn _ _)
 ·have := congrArg dval h
  rw [(dec_val _).1, (dec_val _).1] at this
  omega
end Go.Proofs.Ytldjbgonlbmeaaa.Dig
end
section
/- Plain law: what num.Parse tells. -/
set_option linter.unusedSimpArgs false
set_option linter.unusedVariables false
namespace Go.Proofs.Ytldjbgonlbmeaaa.Dig
open Go.RowKit Go.Proofs.Ytldjbgonlbmeaaa.PA Go.Proofs.Ytldjbgonlbmeaaa.PB Go.Proofs.YtldjbgonlbmeaaaW.PrintWords

def W64 (v : Int) : Prop := -9223372036854775808 ≤ v ∧ v ≤ 9223372036854775807
open Classical in
noncomputable def ps (s : List UInt8) : Int × Int := if h : ∃ v, W64 v ∧ s = text v then (Classical.choose h, 0) else (0, 3)
theorem ps_some {v : Int} (h : W64 v) : ps (text v) = (v, 0) := by
 have h2 : ∃ u, W64 u ∧ text v = text u := ⟨v, h, rfl⟩
 unfold ps
 rw [dif_pos h2]
 have := (Classical.choose_spec h2).2
 rw [← text_inj this]
theorem ps_none {s : List UInt8} (h : ¬ ∃ v, W64 v ∧ s = text v) : ps s = (0, 3) := by
 unfold ps
 rw [dif_neg h]
theorem tl_data (x : ByteArray) : x.toList = x.data.toList := Go.ByteArray.toList_eq x
theorem bt_at (x : ByteArray) (i : Nat) (h : i < x.toList.length) : bt x (i : Int) = (x.toList[i].toNat : Int) := by
 have hd := tl_data x
 have hs : i < x.size := by rw [hd] at h; simpa using h
 unfold bt
 rw [dif_pos (by simpa using hs)]
 simp [hd]
 rfl
theorem sz_len (x : ByteArray) : x.size = x.toList.length := by rw [tl_data]; simp
def runD (W : Int) : List UInt8 → Option Int
 | [] => some W
 | c :: r => if isd c = true then runD (wrap64 (wrap64 (W * 10) - (((c.toNat : Int) - 48) % 256))) r else none
theorem runD_all : ∀ (r : List UInt8) (n : Nat), (∀ c ∈ r, isd c = true) → runD (wrap64 (-(n : Int))) r = some (wrap64 (-((r.foldl (fun n c => n * 10 + (c.toNat - 48)) n : Nat) : Int)))
 | [], n, _ => rfl
 | c :: r, n, h => by
  have hc := h c List.mem_cons_self
  rw [runD, if_pos hc, List.foldl_cons, ← runD_all r (n * 10 + (c.toNat - 48)) (fun x hx => h x (List.mem_cons_of_mem _ hx))]
  congr 1
  simp only [isd, Bool.and_eq_true, decide_eq_true_eq] at hc
  unfold wrap64
  omega
theorem runD_none : ∀ (r : List UInt8) (W : Int), (¬ ∀ c ∈ r, isd c = true) → runD W r = none
 | [], W, h => absurd (fun c hc => by cases hc) h
 | c :: r, W, h => by
  rw [runD]
  by_cases hc : isd c = true
  ·rw [if_pos hc]
   refine runD_none r _ (fun q => h (fun x hx => ?_))
   rcases List.mem_cons.1 hx with rfl | hx
   ·exact hc
   ·exact q x hx
  ·rw [if_neg hc]
def finN (x : ByteArray) (neg : Bool) (W : Int) : Option (Int × Int) := if neg = true then ((num_Digits.f W).bind fun t => (if t.toList = x.toList then (some (W, 0)) else (some (0, 3)))) else ((num_Digits.f (wrap64 (-W))).bind fun t => (if t.toList = x.toList then (some (wrap64 (-W), 0)) else (some (0, 3))))
theorem np_l0 (x : ByteArray) (neg : Bool) (hx : x.toList.length ≤ 20) : ∀ (d i k : Nat) (W : Int), i + d = x.toList.length → 2 * d < k → (1 ≤ i ∨ neg = false) → num_Parse.l0 k x W neg (x.size : Int) (i : Int) = match runD W (x.toList.drop i) with | none => some (0, 3) | some V => finN x neg V
 | 0, i, k, W, h, hk, _ => by
  obtain ⟨k, rfl⟩ : ∃ m, k = m + 1 := ⟨k - 1, by omega⟩
  have hz := sz_len x
  unfold num_Parse.l0
  rw [if_neg (by omega), List.drop_eq_nil_of_le (by omega)]
  rfl
 | d + 1, i, k, W, h, hk, hs => by
  obtain ⟨k, rfl⟩ : ∃ m, k = m + 1 + 1 := ⟨k - 2, by omega⟩
  have hz := sz_len x
  have hi : i < x.toList.length := by omega
  have hw : wrap64 ((i : Int) + 1) = ((i + 1 : Nat) : Int) := by unfold wrap64; omega
  have hj : num_Parse.l0 (k + 1 + 1) x W neg (x.size : Int) (i : Int) = num_Parse.j2 (k + 1) x W neg (i : Int) (x.size : Int) (i : Int) false := by
   conv => lhs; unfold num_Parse.l0
   rw [if_pos (by omega)]
   rcases hs with hs | hs
   ·rw [if_neg (by omega)]
   ·split
    ·rw [hs]
    ·rfl
  rw [hj, List.drop_eq_getElem_cons hi, runD]
  unfold num_Parse.j2
  rw [if_neg (by simp), if_pos (by omega), if_pos (by omega), bt_at x i hi, hw]
  have ih := fun V => np_l0 x neg hx d (i + 1) k V (by omega) (by omega) (.inl (by omega))
  by_cases hc : isd x.toList[i] = true
  ·have hc2 := hc
   simp only [isd, Bool.and_eq_true, decide_eq_true_eq] at hc2
   rw [if_pos hc, if_neg (by omega), if_neg (by omega), ih]
  ·rw [if_neg hc]
   simp only [isd, Bool.and_eq_true, decide_eq_true_eq] at hc
   by_cases h1 : (x.toList[i].toNat : Int) < 48
   ·rw [if_pos h1]
   ·rw [if_neg h1, if_pos (by omega)]
theorem w64_rng (z : Int) : W64 (wrap64 z) := by unfold W64 wrap64; omega
theorem dig_f {v : Int} (h : W64 v) : num_Digits.f v = some ⟨(text v).toArray⟩ := by unfold num_Digits.f; exact if_pos h
theorem arr_tl (l : List UInt8) : (⟨l.toArray⟩ : ByteArray).toList = l := by rw [tl_data]
theorem text_ne (v : Int) : text v ≠ [] := fun h => by
 have := dec_pos v.natAbs
 unfold text at h
 split at h
 ·cases h
 ·rw [h] at this; simp at this
theorem text_len {v : Int} (h : W64 v) : (text v).length ≤ 20 := by
 have := dec_len 18 v.natAbs (by unfold W64 at h; omega)
 unfold text
 split <;> simp <;> omega
theorem np_res (x : ByteArray) (neg : Bool) (ds : List UInt8) (hL : x.toList = if neg = true then 45 :: ds else ds) (hn : neg = false → ∀ r, x.toList ≠ 45 :: r) :
  (match runD 0 ds with | none => some (0, 3) | some V => finN x neg V) = some (ps x.toList) := by
 have inv : ∀ v, x.toList = text v → ds = dec v.natAbs ∧ (neg = true ↔ v < 0) := fun v hv => by
  cases neg with
  | true =>
   rw [if_pos rfl] at hL
   rw [hL] at hv
   by_cases h : v < 0
   ·rw [text_neg h] at hv
    exact ⟨(List.cons.inj hv).2, by simp [h]⟩
   ·rw [text_nat h] at hv
    have := (dec_val v.natAbs).2 45 (by rw [← hv]; simp)
    exact absurd this (by decide)
  | false =>
   rw [if_neg (by simp)] at hL
   by_cases h : v < 0
   ·rw [text_neg h] at hv
    exact absurd hv (hn rfl _)
   ·rw [text_nat h] at hv
    exact ⟨by rw [← hL, hv], by simp [h]⟩
 by_cases hd : ∀ c ∈ ds, isd c = true
 ·have hr := runD_all ds 0 hd
  rw [show wrap64 (-((0 : Nat) : Int)) = 0 by unfold wrap64; omega] at hr
  rw [hr]
  show finN x neg (wrap64 (-((dval ds : Nat) : Int))) = _
  unfold finN
  cases neg with
  | true =>
   rw [if_pos rfl, dig_f (w64_rng _), Option.bind_some, arr_tl]
   by_cases ht : text (wrap64 (-((dval ds : Nat) : Int))) = x.toList
   ·rw [if_pos ht, ← ht, ps_some (w64_rng _)]
   ·rw [if_neg ht, ps_none]
    rintro ⟨v, hv, e⟩
    obtain ⟨h1, h2⟩ := inv v e
    have hneg := h2.1 rfl
    apply ht
    rw [e, h1, (dec_val _).1]
    congr 1
    unfold W64 at hv
    unfold wrap64
    omega
  | false =>
   rw [if_neg (by simp), dig_f (w64_rng _), Option.bind_some, arr_tl]
   by_cases ht : text (wrap64 (-(wrap64 (-((dval ds : Nat) : Int))))) = x.toList
   ·rw [if_pos ht, ← ht, ps_some (w64_rng _)]
   ·rw [if_neg ht, ps_none]
    rintro ⟨v, hv, e⟩
    obtain ⟨h1, h2⟩ := inv v e
    have hneg : ¬ v < 0 := fun q => by have := h2.2 q; cases this
    apply ht
    rw [e, h1, (dec_val _).1]
    congr 1
    unfold W64 at hv
    unfold wrap64
    omega
 ·rw [runD_none ds 0 hd, ps_none]
  rintro ⟨v, hv, e⟩
  exact hd (by rw [(inv v e).1]; exact (dec_val _).2)
theorem np_f (x : ByteArray) : num_Parse.f 60 x = some (ps x.toList) := by
 have hz := sz_len x
 unfold num_Parse.f
 by_cases h0 : x.toList = []
 ·rw [if_pos h0, h0, ps_none (fun ⟨v, _, e⟩ => text_ne v e.symm)]
  rfl
 ·rw [if_neg h0]
  by_cases h1 : (x.size : Int) > 20
  ·rw [decide_eq_true h1, ps_none (fun ⟨v, hv, e⟩ => by have := text_len hv; rw [← e] at this; omega)]
   rfl
  ·rw [decide_eq_false h1]
   have hpos : 0 < x.toList.length := List.length_pos_iff.2 h0
   have hj0 : ∀ k, num_Parse.j0 (k + 1) x false = num_Parse.l0 k x 0 ((bt x 0) == 45) (x.size : Int) 0 := fun k => by
    simp only [num_Parse.j0, Bool.false_eq_true, if_false]
    rw [if_pos (by omega)]
   rw [show (60 : Nat) = 59 + 1 from rfl, hj0]
   obtain ⟨c, r, hcr⟩ : ∃ c r, x.toList = c :: r := by
    cases hq : x.toList with
    | nil => exact absurd hq h0
    | cons c r => exact ⟨c, r, rfl⟩
   have hb : bt x 0 = (c.toNat : Int) := by
    have := bt_at x 0 hpos
    simp only [hcr, List.getElem_cons_zero] at this
    exact this
   rw [hb]
   by_cases hc : c = 45
   ·subst hc
    have e1 : (((45 : UInt8).toNat : Int) == 45) = true := by decide
    rw [e1]
    have hj1 : ∀ k, num_Parse.l0 (k + 1) x 0 true (x.size : Int) 0 = num_Parse.j2 k x 0 true 0 (x.size : Int) 0 true := fun k => by
     conv => lhs; unfold num_Parse.l0
     rw [if_pos (by omega), if_pos rfl]
    have hj2 : ∀ k, num_Parse.j2 (k + 1) x 0 true 0 (x.size : Int) 0 true = num_Parse.l0 k x 0 true (x.size : Int) ((1 : Nat) : Int) := fun k => by
     conv => lhs; unfold num_Parse.j2
     rw [if_pos rfl, show wrap64 (0 + 1) = ((1 : Nat) : Int) by unfold wrap64; omega]
    have hj : num_Parse.l0 59 x 0 true (x.size : Int) 0 = num_Parse.l0 57 x 0 true (x.size : Int) ((1 : Nat) : Int) := by
     rw [show (59 : Nat) = 58 + 1 from rfl, hj1, show (58 : Nat) = 57 + 1 from rfl, hj2]
    rw [hj, np_l0 x true (by omega) (x.toList.length - 1) 1 57 0 (by omega) (by omega) (.inl (Nat.le_refl _))]
    rw [show x.toList.drop 1 = r by rw [hcr]; rfl]
    exact np_res x true r (by rw [hcr]; rfl) (fun h => by cases h)
   ·have e1 : (((c.toNat : Int)) == 45) = false := by
     rw [beq_eq_false_iff_ne]
     intro q
     apply hc
     apply UInt8.toNat_inj.1
     show c.toNat = 45
     omega
    rw [e1, show (0 : Int) = ((0 : Nat) : Int) from rfl, np_l0 x false (by omega) x.toList.length 0 59 _ (by omega) (by omega) (.inr rfl), List.drop_zero]
    exact np_res x false x.toList rfl (fun _ r h => by rw [hcr] at h; exact hc (List.cons.inj h).1)
end Go.Proofs.Ytldjbgonlbmeaaa.Dig
end
section
/- Plain law: what the document's Parse tells. -/
set_option linter.unusedSimpArgs false
set_option linter.unusedVariables false
namespace Go.Proofs.Ytldjbgonlbmeaaa.Dig
open Go.RowKit Go.Proofs.Ytldjbgonlbmeaaa.PA Go.Proofs.Ytldjbgonlbmeaaa.PB Go.Proofs.YtldjbgonlbmeaaaW.PrintWords

def finR (neg : Bool) (D : Nat) : Int × Int := if neg = true then (if 9223372036854775808 < D then (0, 3) else (-(D : Int), 0)) else (if 9223372036854775807 < D then (0, 3) else ((D : Int), 0))
theorem rp_j4 (k : Nat) (neg : Bool) (D : Nat) (h : D < 18446744073709551616) : (if neg = true then (if (D : Int) > 9223372036854775808 then (reticuleref01_Parse.j4 (k + 1) neg (D : Int) true) else (reticuleref01_Parse.j4 (k + 1) neg (D : Int) false)) else (reticuleref01_Parse.j4 (k + 1) neg (D : Int) (decide ((D : Int) > 9223372036854775807)))) = some (finR neg D) := by
 unfold finR
 cases neg with
 | true =>
  simp only [if_true, reticuleref01_Parse.j4]
  by_cases c : 9223372036854775808 < D
  ·rw [if_pos (by omega), if_pos c]
  ·rw [if_neg (by omega), if_neg c]
   simp only [Bool.false_eq_true, if_false, IntKind.wrap_u64]
   congr 2
   unfold wrap64
   omega
 | false =>
  simp only [Bool.false_eq_true, if_false, reticuleref01_Parse.j4]
  by_cases c : 9223372036854775807 < D
  ·rw [decide_eq_true (by omega), if_pos c]
   rfl
  ·rw [decide_eq_false (by omega), if_neg c]
   simp only [Bool.false_eq_true, if_false]
   congr 2
   unfold wrap64
   omega
theorem rp_l0 (y : ByteArray) (neg : Bool) (hy : y.toList.length ≤ 19) : ∀ (d i k N : Nat), i + d = y.toList.length → d + 2 < k → N < 10 ^ i → reticuleref01_Parse.l0 k y neg (N : Int) (i : Int) = if (∀ c ∈ y.toList.drop i, isd c = true) then some (finR neg ((y.toList.drop i).foldl (fun n c => n * 10 + (c.toNat - 48)) N)) else some (0, 3)
 | 0, i, k, N, h, hk, hN => by
  obtain ⟨k, rfl⟩ : ∃ m, k = m + 1 + 1 := ⟨k - 2, by omega⟩
  have hz := sz_len y
  have hp : 10 ^ i ≤ 10 ^ 19 := Nat.pow_le_pow_right (by decide) (by omega)
  conv => lhs; unfold reticuleref01_Parse.l0
  rw [if_neg (by omega), List.drop_eq_nil_of_le (by omega), if_pos (fun c hc => by cases hc)]
  exact rp_j4 k neg N (by omega)
 | d + 1, i, k, N, h, hk, hN => by
  obtain ⟨k, rfl⟩ : ∃ m, k = m + 1 := ⟨k - 1, by omega⟩
  have hz := sz_len y
  have hi : i < y.toList.length := by omega
  have hw : wrap64 ((i : Int) + 1) = ((i + 1 : Nat) : Int) := by unfold wrap64; omega
  have hp : 10 ^ (i + 1) ≤ 10 ^ 19 := Nat.pow_le_pow_right (by decide) (by omega)
  rw [Nat.pow_succ] at hp
  conv => lhs; unfold reticuleref01_Parse.l0
  rw [if_pos (by omega), if_pos (by omega), bt_at y i hi, hw, List.drop_eq_getElem_cons hi]
  by_cases hc : isd y.toList[i] = true
  ·have hc2 := hc
   simp only [isd, Bool.and_eq_true, decide_eq_true_eq] at hc2
   rw [if_neg (by omega), if_neg (by omega)]
   have hv : IntKind.u64.wrap ((IntKind.u64.wrap ((N : Int) * 10)) + ((((y.toList[i].toNat : Nat) : Int) - 48) % 256)) = ((N * 10 + (y.toList[i].toNat - 48) : Nat) : Int) := by
    rw [IntKind.wrap_u64, IntKind.wrap_u64]
    omega
   rw [hv, rp_l0 y neg hy d (i + 1) k _ (by omega) (by omega) (by rw [Nat.pow_succ]; omega), List.foldl_cons]
   by_cases ha : ∀ c ∈ y.toList.drop (i + 1), isd c = true
   ·rw [if_pos ha, if_pos (fun c hm => (List.mem_cons.1 hm).elim (fun e => by rw [e]; exact hc) (ha c))]
   ·rw [if_neg ha, if_neg (fun q => ha (fun c hm => q c (List.mem_cons_of_mem _ hm)))]
  ·have hn : ¬ ∀ c ∈ y.toList[i] :: y.toList.drop (i + 1), isd c = true := fun q => hc (q _ List.mem_cons_self)
   simp only [isd, Bool.and_eq_true, decide_eq_true_eq] at hc
   by_cases h1 : (y.toList[i].toNat : Int) < 48
   ·rw [if_pos h1, if_neg hn]
   ·rw [if_neg h1, if_pos (by omega), if_neg hn]
theorem rp_res (L ds : List UInt8) (neg : Bool) (hL : L = if neg = true then 45 :: ds else ds) (hn : neg = false → ∀ r, L ≠ 45 :: r) (h0 : 1 ≤ ds.length) (h1 : ds.length ≤ 19) (hh : (∀ c r, ds = c :: r → c.toNat ≠ 48) ∨ L = [48]) :
  (if (∀ c ∈ ds, isd c = true) then some (finR neg (dval ds)) else some (0, 3)) = some (ps L) := by
 have inv : ∀ v, L = text v → ds = dec v.natAbs ∧ (neg = true ↔ v < 0) := fun v hv => by
  cases neg with
  | true =>
   rw [if_pos rfl] at hL
   rw [hL] at hv
   by_cases h : v < 0
   ·rw [text_neg h] at hv
    exact ⟨(List.cons.inj hv).2, by simp [h]⟩
   ·rw [text_nat h] at hv
    have := (dec_val v.natAbs).2 45 (by rw [← hv]; simp)
    exact absurd this (by decide)
  | false =>
   rw [if_neg (by simp)] at hL
   by_cases h : v < 0
   ·rw [text_neg h] at hv
    exact absurd hv (hn rfl _)
   ·rw [text_nat h] at hv
    exact ⟨by rw [← hL, hv], by simp [h]⟩
 by_cases hd : ∀ c ∈ ds, isd c = true
 ·rw [if_pos hd]
  congr 1
  have hdec : dec (dval ds) = ds ∧ (neg = true → dval ds ≠ 0) := by
   rcases hh with hh | hh
   ·obtain ⟨q1, q2⟩ := dec_of (ds.length - 1) ds (by omega) hd hh
    exact ⟨q1, fun _ => q2⟩
   ·cases neg with
    | true => rw [if_pos rfl] at hL; rw [hL] at hh; exact absurd (List.cons.inj hh).1 (by decide)
    | false =>
     rw [if_neg (by simp)] at hL
     rw [← hL, hh]
     exact ⟨by rw [show dval [48] = 0 by decide, dec_small (by decide)]; rfl, fun h => by cases h⟩
  unfold finR
  cases neg with
  | true =>
   rw [if_pos rfl]
   have hz := hdec.2 rfl
   by_cases c : 9223372036854775808 < dval ds
   ·rw [if_pos c, ps_none]
    rintro ⟨v, hv, e⟩
    obtain ⟨k1, _⟩ := inv v e
    rw [k1, (dec_val _).1] at c
    unfold W64 at hv
    omega
   ·rw [if_neg c]
    have e : L = text (-((dval ds : Nat) : Int)) := by
     rw [text_neg (by omega), show (-((dval ds : Nat) : Int)).natAbs = dval ds by omega, hdec.1, hL, if_pos rfl]
    rw [e, ps_some (by unfold W64; omega)]
  | false =>
   rw [if_neg (by simp)]
   by_cases c : 9223372036854775807 < dval ds
   ·rw [if_pos c, ps_none]
    rintro ⟨v, hv, e⟩
    obtain ⟨k1, k2⟩ := inv v e
    have : ¬ v < 0 := fun q => by have := k2.2 q; cases this
    rw [k1, (dec_val _).1] at c
    unfold W64 at hv
    omega
   ·rw [if_neg c]
    have e : L = text ((dval ds : Nat) : Int) := by
     rw [text_nat (by omega), Int.natAbs_natCast, hdec.1, hL, if_neg (by simp)]
    rw [e, ps_some (by unfold W64; omega)]
 ·rw [if_neg hd, ps_none]
  rintro ⟨v, hv, e⟩
  exact hd (by rw [(inv v e).1]; exact (dec_val _).2)
theorem ps_short {L : List UInt8} {neg : Bool} {ds : List UInt8} (hL : L = if neg = true then 45 :: ds else ds) (hn : neg = false → ∀ r, L ≠ 45 :: r) (h : ds.length < 1 ∨ 19 < ds.length) : ps L = (0, 3) := ps_none (fun ⟨v, hv, e⟩ => by
 have l1 := dec_pos v.natAbs
 have l2 := dec_len 18 v.natAbs (by unfold W64 at hv; omega)
 have hds : ds = dec v.natAbs := by
  cases neg with
  | true =>
   rw [if_pos rfl] at hL
   rw [hL] at e
   by_cases h : v < 0
   ·rw [text_neg h] at e
    exact (List.cons.inj e).2
   ·rw [text_nat h] at e
    have := (dec_val v.natAbs).2 45 (by rw [← e]; simp)
    exact absurd this (by decide)
  | false =>
   rw [if_neg (by simp)] at hL
   by_cases h : v < 0
   ·rw [text_neg h] at e
    exact absurd e (hn rfl _)
   ·rw [text_nat h] at e
    rw [← hL, e]
 rw [hds] at h
 omega)
theorem ps_nought {L : List UInt8} {neg : Bool} {ds : List UInt8} (hL : L = if neg = true then 45 :: ds else ds) (hn : neg = false → ∀ r, L ≠ 45 :: r) {r : List UInt8} (hd : ds = 48 :: r) (hone : L ≠ [48]) : ps L = (0, 3) := ps_none (fun ⟨v, hv, e⟩ => by
 have key : ∀ n : Nat, dec n = 48 :: r → n = 0 ∧ r = [] := fun n hn => by
  by_cases q : n = 0
  ·subst q
   rw [dec_small (by decide)] at hn
   exact ⟨rfl, (List.cons.inj hn).2.symm⟩
  ·obtain ⟨c, t, h1, h2⟩ := dec_head n q
   rw [h1] at hn
   exact absurd (by rw [(List.cons.inj hn).1]; rfl) h2
 cases neg with
 | true =>
  rw [if_pos rfl] at hL
  rw [hL] at e
  by_cases h : v < 0
  ·rw [text_neg h] at e
   have := (key v.natAbs ((List.cons.inj e).2.symm.trans hd)).1
   omega
  ·rw [text_nat h] at e
   have := (dec_val v.natAbs).2 45 (by rw [← e]; simp)
   exact absurd this (by decide)
 | false =>
  rw [if_neg (by simp)] at hL
  by_cases h : v < 0
  ·rw [text_neg h] at e
   exact absurd e (hn rfl _)
  ·rw [text_nat h] at e
   have := (key v.natAbs (by rw [← e, hL, hd])).2
   subst this
   exact absurd (show L = [48] by rw [hL, hd]) hone)
theorem rp_j1 (x y : ByteArray) (neg : Bool) (hL : x.toList = if neg = true then 45 :: y.toList else y.toList) (hn : neg = false → ∀ r, x.toList ≠ 45 :: r) (k : Nat) (hk : 50 ≤ k) : reticuleref01_Parse.j1 k x y neg = some (ps x.toList) := by
 obtain ⟨k, rfl⟩ : ∃ m, k = m + 1 + 1 := ⟨k - 2, by omega⟩
 have hz := sz_len y
 have j2t : reticuleref01_Parse.j2 (k + 1) y neg true = some (0, 3) := by simp [reticuleref01_Parse.j2]
 have j2f : reticuleref01_Parse.j2 (k + 1) y neg false = reticuleref01_Parse.l0 k y neg 0 0 := by simp [reticuleref01_Parse.j2]
 simp only [reticuleref01_Parse.j1]
 by_cases h1 : (y.size : Int) < 1
 ·rw [if_pos h1, j2t, ps_short hL hn (.inl (by omega))]
 ·rw [if_neg h1]
  by_cases h2 : (y.size : Int) > 19
  ·rw [if_pos h2, j2t, ps_short hL hn (.inr (by omega))]
  ·rw [if_neg h2, if_pos (by omega)]
   have hpos : 0 < y.toList.length := by omega
   have hb := bt_at y 0 hpos
   rw [show ((0 : Nat) : Int) = 0 from rfl] at hb
   obtain ⟨c, r, hcr⟩ : ∃ c r, y.toList = c :: r := by
    cases hq : y.toList with
    | nil => rw [hq] at hpos; simp at hpos
    | cons c r => exact ⟨c, r, rfl⟩
   have hb2 : bt y 0 = (c.toNat : Int) := by rw [hb]; simp only [hcr, List.getElem_cons_zero]
   have hl0 := rp_l0 y neg (by omega) y.toList.length 0 k 0 (by omega) (by omega) (by decide)
   rw [List.drop_zero, show ((0 : Nat) : Int) = 0 from rfl] at hl0
   rw [hb2]
   by_cases hc : (c.toNat : Int) = 48
   ·have hc' : c = 48 := UInt8.toNat_inj.1 (show c.toNat = 48 by omega)
    rw [if_pos hc]
    by_cases hone : x.toList = [48]
    ·rw [show (x.toList != ([48] : List UInt8)) = false by rw [hone]; rfl, j2f, hl0]
     exact rp_res x.toList y.toList neg hL hn (by omega) (by omega) (.inr hone)
    ·rw [show (x.toList != ([48] : List UInt8)) = true by simpa using hone, j2t, ps_nought hL hn (by rw [hcr, hc']) hone]
   ·rw [if_neg hc, j2f, hl0]
    exact rp_res x.toList y.toList neg hL hn (by omega) (by omega) (.inl (fun d t h => by
     rw [hcr] at h
     rw [← (List.cons.inj h).1]
     omega))
theorem rp_f (x : ByteArray) : reticuleref01_Parse.f 60 x = some (ps x.toList) := by
 have hz := sz_len x
 unfold reticuleref01_Parse.f
 have jf : ∀ k y, reticuleref01_Parse.j0 (k + 1) x y false = reticuleref01_Parse.j1 k x y false := fun k y => by simp [reticuleref01_Parse.j0]
 by_cases h0 : (x.size : Int) > 0
 ·rw [if_pos h0, if_pos (by omega)]
  obtain ⟨c, r, hcr⟩ : ∃ c r, x.toList = c :: r := by
   cases hq : x.toList with
   | nil => rw [hq] at hz; simp only [List.length_nil] at hz; omega
   | cons c r => exact ⟨c, r, rfl⟩
  have hb := bt_at x 0 (by rw [hcr]; simp)
  rw [show ((0 : Nat) : Int) = 0 from rfl] at hb
  have hb2 : bt x 0 = (c.toNat : Int) := by rw [hb]; simp only [hcr, List.getElem_cons_zero]
  rw [hb2]
  by_cases hc : c = 45
  ·subst hc
   rw [show (((45 : UInt8).toNat : Int) == 45) = true by decide]
   have jt : reticuleref01_Parse.j0 (59 + 1) x x true = reticuleref01_Parse.j1 59 x (x.extract 1 x.size) true := by
    simp only [reticuleref01_Parse.j0, if_true]
    rw [if_pos (by omega)]
   rw [show (60 : Nat) = 59 + 1 from rfl, jt]
   refine rp_j1 x _ true ?_ (fun h => by cases h) 59 (by decide)
   have hlen : x.size = r.length + 1 := by rw [hz, hcr]; simp
   rw [if_pos rfl, hcr]
   congr 1
   rw [tl_data] at hcr ⊢
   simp [ByteArray.data_extract, hcr]
   rw [List.take_of_length_le (by omega)]
  ·rw [show ((c.toNat : Int) == 45) = false by
    rw [beq_eq_false_iff_ne]
    intro q
    exact hc (UInt8.toNat_inj.1 (show c.toNat = 45 by omega))]
   rw [show (60 : Nat) = 59 + 1 from rfl, jf]
   exact rp_j1 x x false rfl (fun _ r h => by rw [hcr] at h; exact hc (List.cons.inj h).1) 59 (by decide)
 ·rw [if_neg h0, show (60 : Nat) = 59 + 1 from rfl, jf]
  exact rp_j1 x x false rfl (fun _ r h => by rw [h] at hz; simp at hz; omega) 59 (by decide)
end Go.Proofs.Ytldjbgonlbmeaaa.Dig
end
section
/- Plain law: what kind of word a word is; both texts tell the same. -/
set_option linter.unusedSimpArgs false
set_option linter.unusedVariables false
namespace Go.Proofs.Ytldjbgonlbmeaaa.F
open Go.RowKit Go.Proofs.Ytldjbgonlbmeaaa.PA Go.Proofs.Ytldjbgonlbmeaaa.PB Go.Proofs.Ytldjbgonlbmeaaa.Nm Go.Proofs.Ytldjbgonlbmeaaa.Dig Go.Proofs.YtldjbgonlbmeaaaW.PrintWords Go.Proofs.YtldjbgonlbmeaaaW.PrintLast
def signs : List (List UInt8) := [[43], [45], [42], [47], [37], [38], [124], [94], [61], [60]]
open Classical in
noncomputable def wkd (x : ByteArray) : Int := if (ps x.toList).2 = 0 then 4 else if x.toList ∈ signs then 3 else if nmok x = true then 3 else 0
theorem bt_byte (s : ByteArray) (i : Nat) (h : i < s.size) : bt s (i : Int) = (byte s i : Int) := by
 unfold bt byte
 rw [dif_pos (by simpa using h), dif_pos h]
 rfl
theorem name_l0 (s : ByteArray) (hs : s.size ≤ 8) : ∀ (d i k : Nat), i + d = s.size → d < k → (∀ j, j < i → Nm.gd j (byte s j) = true) → reticuleref04_Name.l0 k s (i : Int) = some (good s)
 | 0, i, k, h, hk, hg => by
  obtain ⟨k, rfl⟩ : ∃ m, k = m + 1 := ⟨k - 1, by omega⟩
  rw [reticuleref04_Name.l0, if_neg (by omega)]
  rw [good_all (fun j hj => hg j (by omega))]
 | d + 1, i, k, h, hk, hg => by
  obtain ⟨k, rfl⟩ : ∃ m, k = m + 1 := ⟨k - 1, by omega⟩
  have hi : i < s.size := by omega
  rw [reticuleref04_Name.l0, if_pos (by omega), if_pos (by omega), bt_byte s i hi]
  have hw : wrap64 ((i : Int) + 1) = ((i + 1 : Nat) : Int) := by unfold wrap64; omega
  rw [hw]
  have next : Nm.gd i (byte s i) = true → reticuleref04_Name.l0 k s ((i + 1 : Nat) : Int) = some (good s) := fun hb =>
   name_l0 s hs d (i + 1) k (by omega) (by omega) (fun j hj => by
    by_cases e : j = i
    ·subst e; exact hb
    ·exact hg j (by omega))
  have stop : Nm.gd i (byte s i) = false → some false = some (good s) := fun hb => by rw [good_bad hi hb]
  generalize byte s i = b at next stop
  unfold Nm.gd at next stop
  have key : ∀ (c : Prop) [Decidable c], (c ↔ (97 ≤ b ∧ b ≤ 122 ∨ 48 ≤ b ∧ b ≤ 57 ∧ 0 < i)) → True := fun _ _ _ => trivial
  clear key
  by_cases h1 : 97 ≤ b
  ·rw [if_pos (by omega), if_pos (by omega)]
   by_cases h2 : b ≤ 122
   ·rw [if_pos (by omega)]
    exact next (by simp; omega)
   ·rw [if_neg (by omega), if_neg (by omega)]
    exact stop (by simp; omega)
  ·rw [if_neg (by omega)]
   by_cases h3 : 48 ≤ b
   ·rw [if_pos (by omega)]
    by_cases h4 : b ≤ 57
    ·rw [if_pos (by omega)]
     by_cases h5 : i = 0
     ·subst h5
      rw [if_pos (by rfl)]
      exact stop (by simp; omega)
     ·rw [if_neg (by omega)]
      exact next (by simp; omega)
    ·rw [if_neg (by omega)]
     exact stop (by simp; omega)
   ·rw [if_neg (by omega)]
    exact stop (by simp; omega)
theorem name_f (s : ByteArray) : reticuleref04_Name.f 20 s = some (nmok s) := by
 unfold reticuleref04_Name.f nmok
 by_cases h1 : s.size < 1
 ·rw [if_pos (by omega), reticuleref04_Name.j0, if_pos rfl]
  rw [decide_eq_false (by omega)]
  rfl
 ·rw [if_neg (by omega), reticuleref04_Name.j0]
  by_cases h8 : s.size > 8
  ·rw [if_pos (by simp; omega), decide_eq_false (by omega)]
   rfl
  ·rw [if_neg (by simp; omega)]
   have h := name_l0 s (by omega) s.size 0 19 (by omega) (by omega) (fun j hj => by omega)
   rw [show ((0 : Nat) : Int) = 0 from rfl] at h
   rw [h, decide_eq_true (by omega)]
   rfl
theorem ev_np (x : ByteArray) : Ev (fun k => num_Parse.f k x) (ps x.toList) := Ev.of (num_Parse.mono x) (np_f x)
theorem ev_rp (x : ByteArray) : Ev (fun k => reticuleref01_Parse.f k x) (ps x.toList) := Ev.of (reticuleref01_Parse.mono x) (rp_f x)
theorem ev_wk (x : ByteArray) (hx : x.size ≤ 9223372036854775807) : Ev (fun k => lex_WordKind.f k x) (wkd x) := by
 have hn : lex_named.f x = some (nmok x) := by unfold lex_named.f; rw [if_pos hx]
 have hj : ∀ (k : Nat) (c : List UInt8), lex_WordKind.j0 (k + 1) x (x.toList == c) = some (if x.toList = c then 3 else if nmok x = true then 3 else 0) := fun k c => by
  rw [lex_WordKind.j0, hn]
  by_cases hc : x.toList = c
  ·rw [if_pos (by simpa using hc), if_pos hc]
  ·rw [if_neg (by simpa using hc), if_neg hc]
   simp only [Option.bind_some]
   split <;> rfl
 have hb := Ev.bind (f := fun k bt => if bt.2 = 0 then some 4 else (if x.toList = ([43] : List UInt8) then (lex_WordKind.j0 k x (x.toList == ([43] : List UInt8))) else (if x.toList = ([45] : List UInt8) then (lex_WordKind.j0 k x (x.toList == ([45] : List UInt8))) else (if x.toList = ([42] : List UInt8) then (lex_WordKind.j0 k x (x.toList == ([42] : List UInt8))) else (if x.toList = ([47] : List UInt8) then (lex_WordKind.j0 k x (x.toList == ([47] : List UInt8))) else (if x.toList = ([37] : List UInt8) then (lex_WordKind.j0 k x (x.toList == ([37] : List UInt8))) else (if x.toList = ([38] : List UInt8) then (lex_WordKind.j0 k x (x.toList == ([38] : List UInt8))) else (if x.toList = ([124] : List UInt8) then (lex_WordKind.j0 k x (x.toList == ([124] : List UInt8))) else (if x.toList = ([94] : List UInt8) then (lex_WordKind.j0 k x (x.toList == ([94] : List UInt8))) else (if x.toList = ([61] : List UInt8) then (lex_WordKind.j0 k x (x.toList == ([61] : List UInt8))) else (lex_WordKind.j0 k x (x.toList == ([60] : List UInt8)))))))))))))
  (r := wkd x) (ev_np x) ?_
 ·exact Ev.congr (fun k => rfl) hb
 ·refine ⟨1, fun k hk => ?_⟩
  obtain ⟨k, rfl⟩ : ∃ m, k = m + 1 := ⟨k - 1, by omega⟩
  simp only [hj]
  unfold wkd signs
  by_cases h0 : (ps x.toList).2 = 0
  ·rw [if_pos h0, if_pos h0]
  ·rw [if_neg h0, if_neg h0]
   simp only [List.mem_cons, List.not_mem_nil, or_false]
   generalize (if nmok x = true then (3 : Int) else 0) = e
   generalize x.toList = y
   by_cases hs : y = [43] ∨ y = [45] ∨ y = [42] ∨ y = [47] ∨ y = [37] ∨ y = [38] ∨ y = [124] ∨ y = [94] ∨ y = [61] ∨ y = [60]
   ·rw [if_pos hs]
    rcases hs with h | h | h | h | h | h | h | h | h | h <;> (rw [h]; simp)
   ·rw [if_neg hs]
    simp only [not_or] at hs
    obtain ⟨n1, n2, n3, n4, n5, n6, n7, n8, n9, n10⟩ := hs
    rw [if_neg n1, if_neg n2, if_neg n3, if_neg n4, if_neg n5, if_neg n6, if_neg n7, if_neg n8, if_neg n9, if_neg n10]
theorem ev_rw (x : ByteArray) : Ev (fun k => reticuleref06_WordKind.f k x) (wkd x) := by
 have hb := Ev.bind (f := fun k bt => if bt.2 = 0 then some 4 else ((reticuleref04_Name.f k x).bind fun t104 => (if t104 = true then (some 3) else (reticuleref06_WordKind.l0 k x (([(⟨#[43]⟩ : ByteArray), (⟨#[45]⟩ : ByteArray), (⟨#[42]⟩ : ByteArray), (⟨#[47]⟩ : ByteArray), (⟨#[37]⟩ : ByteArray), (⟨#[38]⟩ : ByteArray), (⟨#[124]⟩ : ByteArray), (⟨#[94]⟩ : ByteArray), (⟨#[61]⟩ : ByteArray), (⟨#[60]⟩ : ByteArray)] : List ByteArray)) 0))))
  (r := wkd x) (ev_rp x) ?_
 ·exact Ev.congr (fun k => rfl) hb
 ·by_cases h0 : (ps x.toList).2 = 0
  ·refine ⟨0, fun k _ => ?_⟩
   unfold wkd
   simp only [h0, if_true]
  ·have hl : Ev (fun k => reticuleref06_WordKind.l0 k x (([(⟨#[43]⟩ : ByteArray), (⟨#[45]⟩ : ByteArray), (⟨#[42]⟩ : ByteArray), (⟨#[47]⟩ : ByteArray), (⟨#[37]⟩ : ByteArray), (⟨#[38]⟩ : ByteArray), (⟨#[124]⟩ : ByteArray), (⟨#[94]⟩ : ByteArray), (⟨#[61]⟩ : ByteArray), (⟨#[60]⟩ : ByteArray)] : List ByteArray)) 0) (if x.toList ∈ signs then 3 else 0) := by
    refine ⟨20, fun k hk => ?_⟩
    obtain ⟨k, rfl⟩ : ∃ m, k = m + 11 := ⟨k - 11, by omega⟩
    have w1 : wrap64 (0 + 1) = 1 := by unfold wrap64; omega
    have w2 : wrap64 (1 + 1) = 2 := by unfold wrap64; omega
    have w3 : wrap64 (2 + 1) = 3 := by unfold wrap64; omega
    have w4 : wrap64 (3 + 1) = 4 := by unfold wrap64; omega
    have w5 : wrap64 (4 + 1) = 5 := by unfold wrap64; omega
    have w6 : wrap64 (5 + 1) = 6 := by unfold wrap64; omega
    have w7 : wrap64 (6 + 1) = 7 := by unfold wrap64; omega
    have w8 : wrap64 (7 + 1) = 8 := by unfold wrap64; omega
    have w9 : wrap64 (8 + 1) = 9 := by unfold wrap64; omega
    have w10 : wrap64 (9 + 1) = 10 := by unfold wrap64; omega
    have tl : ∀ c : UInt8, (⟨#[c]⟩ : ByteArray).toList = [c] := fun c => by rw [Go.ByteArray.toList_eq]
    unfold signs
    simp only [reticuleref06_WordKind.l0, w1, w2, w3, w4, w5, w6, w7, w8, w9, w10, rdOf, List.length_cons, List.length_nil]
    simp only [List.mem_cons, List.not_mem_nil, or_false]
    generalize x.toList = y
    by_cases hs : y = [43] ∨ y = [45] ∨ y = [42] ∨ y = [47] ∨ y = [37] ∨ y = [38] ∨ y = [124] ∨ y = [94] ∨ y = [61] ∨ y = [60]
    ·rw [if_pos hs]
     rcases hs with h | h | h | h | h | h | h | h | h | h <;> (rw [h]; simp [tl])
    ·rw [if_neg hs]
     simp only [not_or] at hs
     obtain ⟨n1, n2, n3, n4, n5, n6, n7, n8, n9, n10⟩ := hs
     simp [tl, n1, n2, n3, n4, n5, n6, n7, n8, n9, n10]
   have hq := Ev.bind (f := fun k t104 => (if t104 = true then (some 3) else (reticuleref06_WordKind.l0 k x (([(⟨#[43]⟩ : ByteArray), (⟨#[45]⟩ : ByteArray), (⟨#[42]⟩ : ByteArray), (⟨#[47]⟩ : ByteArray), (⟨#[37]⟩ : ByteArray), (⟨#[38]⟩ : ByteArray), (⟨#[124]⟩ : ByteArray), (⟨#[94]⟩ : ByteArray), (⟨#[61]⟩ : ByteArray), (⟨#[60]⟩ : ByteArray)] : List ByteArray)) 0)))
    (r := wkd x) (Ev.of (reticuleref04_Name.mono x) (name_f x)) (by
     unfold wkd
     rw [if_neg h0]
     by_cases hm : nmok x = true
     ·refine ⟨0, fun k _ => ?_⟩
      simp only [hm, if_true]
      split <;> rfl
     ·have : nmok x = false := by simpa using hm
      refine Ev.congr (fun k => ?_) (by simpa only [this, Bool.false_eq_true, if_false] using hl)
      simp only [this, Bool.false_eq_true, if_false])
   refine Ev.congr (fun k => ?_) hq
   simp only [h0, if_false]
end Go.Proofs.Ytldjbgonlbmeaaa.F
end
section
/- Plain law: what the reference's Parse tells, token by token. -/
set_option linter.unusedSimpArgs false
set_option linter.unusedVariables false
namespace Go.Proofs.Ytldjbgonlbmeaaa.F
open Go.RowKit Go.Proofs.Ytldjbgonlbmeaaa.PA Go.Proofs.YtldjbgonlbmeaaaW.PrintWords Go.Proofs.YtldjbgonlbmeaaaW.PrintLast
open Go.Proofs.Ytldjbgonlbmeaaa.T (Fm zFm)
abbrev Tk := S61
abbrev PR := List Fm × List Int × Int × Int
def fm (t : Tk) : Fm := ⟨t.f0, if t.f0 = 3 then t.f1 else ⟨#[]⟩, if t.f0 = 4 then t.f2 else 0, [], t.f3⟩
def kid (l : List Fm) (b : Nat) (n : Int) : List Fm := l.set b ⟨(l.getD b zFm).f0, (l.getD b zFm).f1, (l.getD b zFm).f2, (l.getD b zFm).f3 ++ [n], (l.getD b zFm).f4⟩
def lastI (o : List Int) : Int := o.getD (o.length - 1) 0
def pspec : List Tk → List Fm → List Int → List Int → PR
 | [], l, top, o => if o = [] then (l, top, 0, 0) else ([], [], (l.getD (lastI o).toNat zFm).f4, 8)
 | t :: ts, l, top, o =>
  if t.f0 = 2 then (if o = [] then ([], [], t.f3, 8) else pspec ts l top (o.take (o.length - 1))) else
  if t.f0 ≠ 1 ∧ t.f0 ≠ 3 ∧ t.f0 ≠ 4 then pspec ts l top o else
  if (t.f0 = 1 ∧ 12 ≤ o.length) ∨ 400 ≤ l.length then ([], [], t.f3, 4) else
  pspec ts (if o = [] then l ++ [fm t] else kid (l ++ [fm t]) (lastI o).toNat l.length) (if o = [] then top ++ [(l.length : Int)] else top) (if t.f0 = 1 then o ++ [(l.length : Int)] else o)
structure PI (l : List Fm) (top o : List Int) : Prop where
 n : l.length ≤ 400
 d : o.length ≤ 12
 t : top.length ≤ l.length
 o : ∀ b ∈ o, 0 ≤ b ∧ b < (l.length : Int)
 k : ∀ i, (l.getD i zFm).f3.length ≤ l.length
theorem lastI_mem {o : List Int} (h : o ≠ []) : lastI o ∈ o := by
 have : 0 < o.length := List.length_pos_iff.2 h
 unfold lastI
 rw [List.getD_eq_getElem?_getD, List.getElem?_eq_getElem (by omega)]
 exact List.getElem_mem _
theorem kid_len (l : List Fm) (b : Nat) (n : Int) : (kid l b n).length = l.length := by unfold kid; simp
theorem PI.pop {l : List Fm} {top o : List Int} (h : PI l top o) : PI l top (o.take (o.length - 1)) := ⟨h.n, by have := h.d; simp; omega, h.t, fun b hb => h.o b (List.mem_of_mem_take hb), h.k⟩
theorem getD_app (l : List Fm) (f : Fm) (i : Nat) : (l ++ [f]).getD i zFm = if i = l.length then f else l.getD i zFm := by
 simp only [List.getD_eq_getElem?_getD]
 by_cases h : i = l.length
 ·subst h; simp
 ·rw [if_neg h]
  by_cases h2 : i < l.length
  ·rw [List.getElem?_append_left h2]
  ·rw [List.getElem?_eq_none (by simp; omega), List.getElem?_eq_none (by omega)]
theorem getD_kid (l : List Fm) (b : Nat) (n : Int) (i : Nat) : (kid l b n).getD i zFm = if i = b ∧ b < l.length then ⟨(l.getD b zFm).f0, (l.getD b zFm).f1, (l.getD b zFm).f2, (l.getD b zFm).f3 ++ [n], (l.getD b zFm).f4⟩ else l.getD i zFm := by
 unfold kid
 simp only [List.getD_eq_getElem?_getD, List.getElem?_set]
 by_cases h : b = i
 ·subst h
  by_cases h2 : b < l.length
  ·simp [h2]
  ·simp [h2, List.getElem?_eq_none (Nat.le_of_not_lt h2)]
 ·rw [if_neg h, if_neg (fun e => h e.1.symm)]
theorem PI.add {l : List Fm} {top o : List Int} (h : PI l top o) (t : Tk) (hn : l.length < 400) (hd : t.f0 = 1 → o.length < 12) :
  PI (if o = [] then l ++ [fm t] else kid (l ++ [fm t]) (lastI o).toNat l.length) (if o = [] then top ++ [(l.length : Int)] else top) (if t.f0 = 1 then o ++ [(l.length : Int)] else o) := by
 have hl : (if o = [] then l ++ [fm t] else kid (l ++ [fm t]) (lastI o).toNat l.length).length = l.length + 1 := by
  split
  ·simp
  ·rw [kid_len]; simp
 refine ⟨by rw [hl]; omega, ?_, ?_, ?_, ?_⟩
 ·split
  ·rename_i h1
   have := hd h1
   simp; omega
  ·exact h.d
 ·rw [hl]
  have := h.t
  split
  ·simp; omega
  ·omega
 ·intro b hb
  rw [hl]
  split at hb
  ·rcases List.mem_append.1 hb with hb | hb
   ·have := h.o b hb; omega
   ·rw [List.mem_singleton.1 hb]; omega
  ·have := h.o b hb; omega
 ·intro i
  rw [hl]
  have hk := h.k
  have h1 : ∀ i, ((l ++ [fm t]).getD i zFm).f3.length ≤ l.length := fun i => by
   rw [getD_app]
   split
   ·simp [fm]
   ·exact hk i
  split
  ·have := h1 i; omega
  ·rw [getD_kid]
   split
   ·simp only [List.length_append, List.length_cons, List.length_nil]
    have := h1 (lastI o).toNat
    omega
   ·have := h1 i; omega
theorem rdT (x : List Tk) (i : Nat) (t : Tk) (ts : List Tk) (h : x.drop i = t :: ts) : i < x.length ∧ rd_T61 x (i : Int) = t ∧ x.drop (i + 1) = ts := by
 have hi : i < x.length := by
  apply Classical.byContradiction
  intro hn
  rw [List.drop_of_length_le (by omega)] at h
  cases h
 rw [List.drop_eq_getElem_cons hi] at h
 injection h with h1 h2
 refine ⟨hi, ?_, h2⟩
 unfold rd_T61
 rw [Int.toNat_natCast, List.getD_eq_getElem?_getD, List.getElem?_eq_getElem hi, ← h1]
 rfl
theorem rd_last {o : List Int} (h : o ≠ []) (hd : o.length ≤ 12) : wrap64 ((o.length : Int) - 1) = ((o.length - 1 : Nat) : Int) ∧ rd o ((o.length - 1 : Nat) : Int) = lastI o := by
 have : 0 < o.length := List.length_pos_iff.2 h
 refine ⟨by unfold wrap64; omega, ?_⟩
 unfold rd lastI
 rw [Int.toNat_natCast]
end Go.Proofs.Ytldjbgonlbmeaaa.F
end
section
/- Plain law: the reference's Tokens, step by step; whatever the text, it tells tokens or an error. -/
set_option linter.unusedSimpArgs false
set_option linter.unusedVariables false
namespace Go.Proofs.Ytldjbgonlbmeaaa.F
open Go.RowKit Go.Proofs.Ytldjbgonlbmeaaa.PA Go.Proofs.Ytldjbgonlbmeaaa.PB Go.Proofs.Ytldjbgonlbmeaaa.Dig Go.Proofs.YtldjbgonlbmeaaaW.PrintWords Go.Proofs.YtldjbgonlbmeaaaW.PrintLast
abbrev TR := List Tk × Int × Int
def spc (v : Int) : Prop := v = 32 ∨ v = 9 ∨ v = 10
def edge (v : Int) : Prop := spc v ∨ v = 40 ∨ v = 41 ∨ v = 59
instance (v : Int) : Decidable (spc v) := inferInstanceAs (Decidable (v = 32 ∨ v = 9 ∨ v = 10))
instance (v : Int) : Decidable (edge v) := inferInstanceAs (Decidable (spc v ∨ v = 40 ∨ v = 41 ∨ v = 59))
theorem spaced_f (v : Int) : reticuleref06_Spaced.f v = some (decide (spc v)) := by
 unfold reticuleref06_Spaced.f
 by_cases h1 : v = 32
 ·rw [if_pos h1, decide_eq_true (show spc v from Or.inl h1)]
 ·rw [if_neg h1]
  by_cases h2 : v = 9
  ·rw [if_pos h2, decide_eq_true (show spc v from Or.inr (Or.inl h2))]
  ·rw [if_neg h2]
   by_cases h3 : v = 10
   ·rw [decide_eq_true (show spc v from Or.inr (Or.inr h3)), h3]; rfl
   ·rw [decide_eq_false (show ¬ spc v by rintro (q | q | q) <;> contradiction)]
    simpa using h3
theorem ends_f (v : Int) : reticuleref06_ends.f v = some (decide (edge v)) := by
 unfold reticuleref06_ends.f
 rw [spaced_f, Option.bind_some]
 by_cases h1 : spc v
 ·rw [if_pos (decide_eq_true h1), decide_eq_true (show edge v from Or.inl h1)]
 ·rw [if_neg (by simpa using h1)]
  by_cases h2 : v = 40
  ·rw [if_pos h2, decide_eq_true (show edge v from Or.inr (Or.inl h2))]
  ·rw [if_neg h2]
   by_cases h3 : v = 41
   ·rw [if_pos h3, decide_eq_true (show edge v from Or.inr (Or.inr (Or.inl h3)))]
   ·rw [if_neg h3]
    by_cases h4 : v = 59
    ·rw [decide_eq_true (show edge v from Or.inr (Or.inr (Or.inr h4))), h4]; rfl
    ·rw [decide_eq_false (show ¬ edge v by rintro (q | q | q | q) <;> contradiction)]
     simpa using h4
abbrev L0 (x : ByteArray) (acc : List Tk) (i : Nat) (r : TR) : Prop := Ev (fun k => reticuleref06_Tokens.l0 k x acc (i : Int)) r
theorem w1 {x : ByteArray} (hx : x.size ≤ 3000) {i : Nat} (hi : i ≤ x.size) : wrap64 ((i : Int) + 1) = ((i + 1 : Nat) : Int) := by unfold wrap64; omega
theorem t_end {x : ByteArray} {acc : List Tk} : L0 x acc x.size (acc, 0, 0) := by
 refine Ev.step (f := fun k => some (acc, 0, 0)) (fun k => ?_) (Ev.now _)
 rw [reticuleref06_Tokens.l0, if_neg (by omega)]
theorem t_space {x : ByteArray} (hx : x.size ≤ 3000) {acc : List Tk} {i : Nat} {r : TR} (hi : i < x.size) (hs : spc (bt x i)) (h : L0 x acc (i + 1) r) : L0 x acc i r := by
 refine Ev.step (fun k => ?_) h
 rw [reticuleref06_Tokens.l0, if_pos (by omega), if_pos (by omega), spaced_f, Option.bind_some, if_pos (decide_eq_true hs), w1 hx (by omega)]
theorem t_open {x : ByteArray} (hx : x.size ≤ 3000) {acc : List Tk} {i : Nat} {r : TR} (hi : i < x.size) (hs : bt x i = 40) (ha : acc.length < 600) (h : L0 x (acc ++ [⟨1, x.extract i (i + 1), 0, (i : Int)⟩]) (i + 1) r) : L0 x acc i r := by
 refine Ev.step (fun k => ?_) h
 rw [reticuleref06_Tokens.l0, if_pos (by omega), if_pos (by omega), spaced_f, Option.bind_some, if_neg (by rw [hs]; decide), if_neg (by omega), if_pos hs, if_neg (by omega), w1 hx (by omega), if_pos (by omega), if_pos (by omega), if_pos (by omega)]
 rfl
theorem t_close {x : ByteArray} (hx : x.size ≤ 3000) {acc : List Tk} {i : Nat} {r : TR} (hi : i < x.size) (hs : bt x i = 41) (ha : acc.length < 600) (h : L0 x (acc ++ [⟨2, x.extract i (i + 1), 0, (i : Int)⟩]) (i + 1) r) : L0 x acc i r := by
 refine Ev.step (fun k => ?_) h
 rw [reticuleref06_Tokens.l0, if_pos (by omega), if_pos (by omega), spaced_f, Option.bind_some, if_neg (by rw [hs]; decide), if_neg (by omega), if_neg (by omega), if_pos hs, if_neg (by omega), w1 hx (by omega), if_pos (by omega), if_pos (by omega), if_pos (by omega)]
 rfl
theorem t_full {x : ByteArray} {acc : List Tk} {i : Nat} (hi : i < x.size) (hs : bt x i = 40 ∨ bt x i = 41) (ha : 600 ≤ acc.length) : L0 x acc i ([], (i : Int), 4) := by
 refine Ev.step (f := fun k => some ([], (i : Int), 4)) (fun k => ?_) (Ev.now _)
 rw [reticuleref06_Tokens.l0, if_pos (by omega), if_pos (by omega), spaced_f, Option.bind_some, if_neg (by rcases hs with e | e <;> (rw [e]; decide)), if_neg (by omega)]
 by_cases h4 : bt x i = 40
 ·rw [if_pos h4, if_pos (by omega)]
 ·rw [if_neg h4, if_pos (by omega), if_pos (by omega)]
abbrev L1 (x : ByteArray) (acc : List Tk) (i : Nat) (r : TR) : Prop := Ev (fun k => reticuleref06_Tokens.l1 k x acc (i : Int)) r
abbrev J3 (x : ByteArray) (acc : List Tk) (i n : Nat) (r : TR) : Prop := Ev (fun k => reticuleref06_Tokens.j3 k x acc (i : Int) (n : Int) 0 ⟨#[]⟩ 0 (i : Int)) r
abbrev L2 (x : ByteArray) (acc : List Tk) (i n : Nat) (r : TR) : Prop := Ev (fun k => reticuleref06_Tokens.l2 k x acc (i : Int) (n : Int) 0 ⟨#[]⟩ 0 (i : Int)) r
theorem t_note {x : ByteArray} {acc : List Tk} {i : Nat} {r : TR} (hi : i < x.size) (hs : bt x i = 59) (h : L1 x acc i r) : L0 x acc i r := by
 refine Ev.step (fun k => ?_) h
 rw [reticuleref06_Tokens.l0, if_pos (by omega), if_pos (by omega), spaced_f, Option.bind_some, if_neg (by rw [hs]; decide), if_pos hs]
theorem n_next {x : ByteArray} (hx : x.size ≤ 3000) {acc : List Tk} {i : Nat} {r : TR} (hi : i < x.size) (hs : bt x i ≠ 10) (h : L1 x acc (i + 1) r) : L1 x acc i r := by
 refine Ev.step (fun k => ?_) h
 rw [reticuleref06_Tokens.l1, if_pos (by omega), if_pos (by omega), if_neg hs, w1 hx (by omega)]
theorem n_end {x : ByteArray} {acc : List Tk} {i : Nat} {r : TR} (hi : i < x.size → bt x i = 10) (h : L0 x acc i r) : L1 x acc i r := by
 refine Ev.step (fun k => ?_) h
 rw [reticuleref06_Tokens.l1]
 by_cases q : i < x.size
 ·rw [if_pos (by omega), if_pos (by omega), if_pos (hi q)]
 ·rw [if_neg (by omega)]
theorem t_word {x : ByteArray} {acc : List Tk} {i : Nat} {r : TR} (hi : i < x.size) (hs : ¬ edge (bt x i)) (h : L2 x acc i 1 r) : L0 x acc i r := by
 simp only [edge, not_or] at hs
 refine Ev.step (fun k => ?_) h
 rw [reticuleref06_Tokens.l0, if_pos (by omega), if_pos (by omega), spaced_f, Option.bind_some, if_neg (by simpa using hs.1), if_neg hs.2.2.2, if_neg hs.2.1, if_neg hs.2.2.1]
 rfl
theorem wn {x : ByteArray} (hx : x.size ≤ 3000) {i n : Nat} (hi : i + n ≤ x.size) : wrap64 ((i : Int) + (n : Int)) = ((i + n : Nat) : Int) := by unfold wrap64; omega
theorem l_next {x : ByteArray} (hx : x.size ≤ 3000) {acc : List Tk} {i n : Nat} {r : TR} (hi : i + n < x.size) (hs : ¬ edge (bt x ((i + n : Nat) : Int))) (h : L2 x acc i (n + 1) r) : L2 x acc i n r := by
 refine Ev.step (fun k => ?_) h
 rw [reticuleref06_Tokens.l2, wn hx (by omega), if_pos (by omega), if_pos (by omega), ends_f, Option.bind_some, if_neg (by simpa using hs)]
 rw [show wrap64 ((n : Int) + 1) = ((n + 1 : Nat) : Int) by unfold wrap64; omega]
theorem l_end {x : ByteArray} (hx : x.size ≤ 3000) {acc : List Tk} {i n : Nat} {r : TR} (hi : i + n ≤ x.size) (hs : i + n < x.size → edge (bt x ((i + n : Nat) : Int))) (h : J3 x acc i n r) : L2 x acc i n r := by
 refine Ev.step (fun k => ?_) h
 rw [reticuleref06_Tokens.l2, wn hx (by omega)]
 by_cases q : i + n < x.size
 ·rw [if_pos (by omega), if_pos (by omega), ends_f, Option.bind_some, if_pos (decide_eq_true (hs q))]
 ·rw [if_neg (by omega)]
abbrev wd (x : ByteArray) (i n : Nat) : ByteArray := x.extract i (i + n)
def jf (x : ByteArray) (acc : List Tk) (i n k : Nat) (t : Int) : Option TR := if t = 0 then (some (([] : List Tk), (i : Int), 8)) else (if t = 4 then ((reticuleref01_Parse.f k (wd x i n)).bind fun bt119 => (if (acc.length : Int) ≥ 600 then (some (([] : List Tk), (i : Int), 4)) else (if acc.length < 3518437208883 then (reticuleref06_Tokens.l0 k x (acc ++ [⟨t, wd x i n, bt119.1, (i : Int)⟩]) ((i + n : Nat) : Int)) else (none)))) else (if (acc.length : Int) ≥ 600 then (some (([] : List Tk), (i : Int), 4)) else (if acc.length < 3518437208883 then (reticuleref06_Tokens.l0 k x (acc ++ [⟨t, wd x i n, 0, (i : Int)⟩]) ((i + n : Nat) : Int)) else (none))))
theorem j_head {x : ByteArray} (hx : x.size ≤ 3000) {acc : List Tk} {i n : Nat} {r : TR} (hi : i + n ≤ x.size)
  (h : Ev (fun k => jf x acc i n k (wkd (wd x i n))) r) : J3 x acc i n r := by
 refine Ev.step (f := fun k => (reticuleref06_WordKind.f k (wd x i n)).bind (jf x acc i n k)) (fun k => ?_) (Ev.bind (f := jf x acc i n) (ev_rw (wd x i n)) h)
 rw [reticuleref06_Tokens.j3, wn hx hi, if_pos (by omega), if_pos (by omega), if_pos (by omega)]
 rfl
theorem j_bad {x : ByteArray} (hx : x.size ≤ 3000) {acc : List Tk} {i n : Nat} (hi : i + n ≤ x.size) (hw : wkd (wd x i n) = 0) : J3 x acc i n ([], (i : Int), 8) :=
 j_head hx hi (Ev.congr (f := fun k => some ([], (i : Int), 8)) (fun k => by unfold jf; rw [if_pos hw]) (Ev.now _))
theorem j_full {x : ByteArray} (hx : x.size ≤ 3000) {acc : List Tk} {i n : Nat} (hi : i + n ≤ x.size) (hw : wkd (wd x i n) ≠ 0) (ha : 600 ≤ acc.length) : J3 x acc i n ([], (i : Int), 4) := by
 refine j_head hx hi ?_
 by_cases h4 : wkd (wd x i n) = 4
 ·refine Ev.congr (f := fun k => (reticuleref01_Parse.f k (wd x i n)).bind fun bt119 => some ([], (i : Int), 4)) (fun k => ?_) (Ev.bind (f := fun _ _ => some ([], (i : Int), 4)) (ev_rp _) (Ev.now _))
  unfold jf
  rw [if_neg hw, if_pos h4]
  congr 1
  funext b
  rw [if_pos (by omega)]
 ·refine Ev.congr (f := fun k => some ([], (i : Int), 4)) (fun k => ?_) (Ev.now _)
  unfold jf
  rw [if_neg hw, if_neg h4, if_pos (by omega)]
theorem j_num {x : ByteArray} (hx : x.size ≤ 3000) {acc : List Tk} {i n : Nat} {r : TR} (hi : i + n ≤ x.size) (hw : wkd (wd x i n) = 4) (ha : acc.length < 600) (h : L0 x (acc ++ [⟨4, wd x i n, (ps (wd x i n).toList).1, (i : Int)⟩]) (i + n) r) : J3 x acc i n r := by
 refine j_head hx hi ?_
 refine Ev.congr (f := fun k => (reticuleref01_Parse.f k (wd x i n)).bind fun bt119 => (reticuleref06_Tokens.l0 k x (acc ++ [⟨4, wd x i n, bt119.1, (i : Int)⟩]) ((i + n : Nat) : Int))) (fun k => ?_) (Ev.bind (f := fun k bt119 => (reticuleref06_Tokens.l0 k x (acc ++ [⟨4, wd x i n, bt119.1, (i : Int)⟩]) ((i + n : Nat) : Int))) (ev_rp _) h)
 unfold jf
 rw [hw, if_neg (by omega), if_pos rfl]
 congr 1
 funext b
 rw [if_neg (by omega), if_pos (by omega)]
theorem j_name {x : ByteArray} (hx : x.size ≤ 3000) {acc : List Tk} {i n : Nat} {r : TR} (hi : i + n ≤ x.size) (hw : wkd (wd x i n) = 3) (ha : acc.length < 600) (h : L0 x (acc ++ [⟨3, wd x i n, 0, (i : Int)⟩]) (i + n) r) : J3 x acc i n r := by
 refine j_head hx hi ?_
 refine Ev.congr (fun k => ?_) h
 unfold jf
 rw [hw, if_neg (by omega), if_neg (by omega), if_neg (by omega), if_pos (by omega)]
def TokOk (t : Tk) : Prop := t.f0 = 1 ∨ t.f0 = 2 ∨ (t.f0 = 3 ∧ wkd t.f1 = 3 ∧ t.f1.size ≤ 3000) ∨ (t.f0 = 4 ∧ W64 t.f2)
theorem wkd_cases (x : ByteArray) : wkd x = 0 ∨ wkd x = 3 ∨ (wkd x = 4 ∧ W64 (ps x.toList).1) := by
 unfold wkd
 split
 ·rename_i h
  refine Or.inr (Or.inr ⟨rfl, ?_⟩)
  by_cases q : ∃ v, W64 v ∧ x.toList = text v
  ·obtain ⟨v, hv, e⟩ := q
   rw [e, ps_some hv]; exact hv
  ·rw [ps_none q] at h
   exact absurd h (by simp)
 ·split
  ·exact Or.inr (Or.inl rfl)
  ·split
   ·exact Or.inr (Or.inl rfl)
   ·exact Or.inl rfl
def Good (r : TR) : Prop := r.2.2 = 0 → (∀ t ∈ r.1, TokOk t) ∧ r.1.length ≤ 600
def AccOk (acc : List Tk) : Prop := (∀ t ∈ acc, TokOk t) ∧ acc.length ≤ 600
theorem AccOk.add {acc : List Tk} (h : AccOk acc) (hl : acc.length < 600) {t : Tk} (ht : TokOk t) : AccOk (acc ++ [t]) := ⟨fun u hu => by
 rcases List.mem_append.1 hu with q | q
 ·exact h.1 u q
 ·rw [List.mem_singleton.1 q]; exact ht, by simp; omega⟩
theorem bad {c : Int} {i : Int} (h : c ≠ 0) : Good ([], i, c) := fun q => absurd q h
theorem toks_from {x : ByteArray} (hx : x.size ≤ 3000) : ∀ (d i : Nat), i + d = x.size → ∀ acc, AccOk acc → ∃ r, L0 x acc i r ∧ Good r := by
 intro d
 induction d using Nat.strongRecOn with
 | _ d ih =>
  intro i hi acc ha
  by_cases h0 : d = 0
  ·rw [show i = x.size by omega]
   exact ⟨_, t_end, fun _ => ha⟩
  have hlt : i < x.size := by omega
  have next : ∀ j, i < j → j ≤ x.size → ∀ acc, AccOk acc → ∃ r, L0 x acc j r ∧ Good r := fun j h1 h2 => ih (x.size - j) (by omega) j (by omega)
  by_cases hsp : spc (bt x i)
  ·obtain ⟨r, h1, h2⟩ := next (i + 1) (by omega) (by omega) acc ha
   exact ⟨r, t_space hx hlt hsp h1, h2⟩
  by_cases h59 : bt x i = 59
  ·have run : ∀ e j, j + e = x.size → i < j → ∃ r, L1 x acc j r ∧ Good r := by
    intro e
    induction e with
    | zero =>
     intro j hj hij
     obtain ⟨r, h1, h2⟩ := next j hij (by omega) acc ha
     exact ⟨r, n_end (fun q => by omega) h1, h2⟩
    | succ e ihe =>
     intro j hj hij
     by_cases h10 : bt x j = 10
     ·obtain ⟨r, h1, h2⟩ := next j hij (by omega) acc ha
      exact ⟨r, n_end (fun _ => h10) h1, h2⟩
     ·obtain ⟨r, h1, h2⟩ := ihe (j + 1) (by omega) (by omega)
      exact ⟨r, n_next hx (by omega) h10 h1, h2⟩
   obtain ⟨r, h1, h2⟩ := run (x.size - (i + 1)) (i + 1) (by omega) (by omega)
   exact ⟨r, t_note hlt h59 (n_next hx hlt (by omega) h1), h2⟩
  by_cases h40 : bt x i = 40
  ·by_cases hf : 600 ≤ acc.length
   ·exact ⟨_, t_full hlt (Or.inl h40) hf, bad (by decide)⟩
   ·obtain ⟨r, h1, h2⟩ := next (i + 1) (by omega) (by omega) _ (ha.add (by omega) (t := ⟨1, x.extract i (i + 1), 0, (i : Int)⟩) (Or.inl rfl))
    exact ⟨r, t_open hx hlt h40 (by omega) h1, h2⟩
  by_cases h41 : bt x i = 41
  ·by_cases hf : 600 ≤ acc.length
   ·exact ⟨_, t_full hlt (Or.inr h41) hf, bad (by decide)⟩
   ·obtain ⟨r, h1, h2⟩ := next (i + 1) (by omega) (by omega) _ (ha.add (by omega) (t := ⟨2, x.extract i (i + 1), 0, (i : Int)⟩) (Or.inr (Or.inl rfl)))
    exact ⟨r, t_close hx hlt h41 (by omega) h1, h2⟩
  have hne : ¬ edge (bt x i) := by
   rintro (q | q | q | q)
   ·exact hsp q
   ·exact h40 q
   ·exact h41 q
   ·exact h59 q
  have word : ∀ n, 1 ≤ n → i + n ≤ x.size → ∃ r, J3 x acc i n r ∧ Good r := fun n h1 hn => by
   have hsz : (wd x i n).size ≤ 3000 := by simp [ByteArray.size_extract]; omega
   rcases wkd_cases (wd x i n) with hw | hw | ⟨hw, hv⟩
   ·exact ⟨_, j_bad hx hn hw, bad (by decide)⟩
   ·by_cases hf : 600 ≤ acc.length
    ·exact ⟨_, j_full hx hn (by omega) hf, bad (by decide)⟩
    ·obtain ⟨r, h1, h2⟩ := next (i + n) (by omega) hn _ (ha.add (by omega) (t := ⟨3, wd x i n, 0, (i : Int)⟩) (Or.inr (Or.inr (Or.inl ⟨rfl, hw, hsz⟩))))
     exact ⟨r, j_name hx hn hw (by omega) h1, h2⟩
   ·by_cases hf : 600 ≤ acc.length
    ·exact ⟨_, j_full hx hn (by omega) hf, bad (by decide)⟩
    ·obtain ⟨r, h1, h2⟩ := next (i + n) (by omega) hn _ (ha.add (by omega) (t := ⟨4, wd x i n, (ps (wd x i n).toList).1, (i : Int)⟩) (Or.inr (Or.inr (Or.inr ⟨rfl, hv⟩))))
     exact ⟨r, j_num hx hn hw (by omega) h1, h2⟩
  have run : ∀ e n, i + n + e = x.size → 1 ≤ n → ∃ r, L2 x acc i n r ∧ Good r := by
   intro e
   induction e with
   | zero =>
    intro n hn h1
    obtain ⟨r, h1, h2⟩ := word n h1 (by omega)
    exact ⟨r, l_end hx (by omega) (fun q => by omega) h1, h2⟩
   | succ e ihe =>
    intro n hn h1
    by_cases he : edge (bt x ((i + n : Nat) : Int))
    ·obtain ⟨r, h1, h2⟩ := word n h1 (by omega)
     exact ⟨r, l_end hx (by omega) (fun _ => he) h1, h2⟩
    ·obtain ⟨r, h1, h2⟩ := ihe (n + 1) (by omega) (by omega)
     exact ⟨r, l_next hx (by omega) he h1, h2⟩
  obtain ⟨r, h1, h2⟩ := run (x.size - (i + 1)) 1 (by omega) (Nat.le_refl _)
  exact ⟨r, t_word hlt hne h1, h2⟩
theorem toks_any (x : ByteArray) : ∃ r, Ev (fun k => reticuleref06_Tokens.f k x) r ∧ Good r := by
 by_cases hx : x.size ≤ 3000
 ·obtain ⟨r, h1, h2⟩ := toks_from hx x.size 0 (by omega) [] ⟨(fun _ h => by cases h), by simp⟩
  refine ⟨r, Ev.congr (fun k => ?_) h1, h2⟩
  unfold reticuleref06_Tokens.f
  rw [if_neg (by omega)]
  rfl
 ·refine ⟨([], 0, 4), Ev.congr (f := fun k => some ([], 0, 4)) (fun k => ?_) (Ev.now _), bad (by decide)⟩
  unfold reticuleref06_Tokens.f
  rw [if_pos (by omega)]
end Go.Proofs.Ytldjbgonlbmeaaa.F
end
section
/- Plain law: the reference's Parse is what pspec says. -/
set_option linter.unusedSimpArgs false
set_option linter.unusedVariables false
namespace Go.Proofs.Ytldjbgonlbmeaaa.F
open Go.RowKit Go.Proofs.Ytldjbgonlbmeaaa.PA Go.Proofs.YtldjbgonlbmeaaaW.PrintWords Go.Proofs.YtldjbgonlbmeaaaW.PrintLast
open Go.Proofs.Ytldjbgonlbmeaaa.T (Fm zFm)
theorem j3_eq (x : List Tk) (hx : x.length ≤ 1000000) (i : Nat) (l : List Fm) (top o : List Int) (h : PI l top o) (hi : i < x.length) (t : Tk) (k : Nat) (hn : l.length < 400) :
  reticuleref07_Parse.j3 (k + 1) x l top o (i : Int) t.f0 t.f1 t.f2 t.f3 (fm t).f0 (fm t).f1 (fm t).f2 (fm t).f4 =
   reticuleref07_Parse.l0 k x (if o = [] then l ++ [fm t] else kid (l ++ [fm t]) (lastI o).toNat l.length) (if o = [] then top ++ [(l.length : Int)] else top) (if t.f0 = 1 then o ++ [(l.length : Int)] else o) ((i + 1 : Nat) : Int) := by
 have hw : wrap64 ((i : Int) + 1) = ((i + 1 : Nat) : Int) := by unfold wrap64; omega
 have hfm : (⟨(fm t).f0, (fm t).f1, (fm t).f2, ([] : List Int), (fm t).f4⟩ : Fm) = fm t := rfl
 have ht := h.t
 have hd := h.d
 rw [reticuleref07_Parse.j3, if_pos (by omega), hw, hfm]
 try simp only [Option.bind_some]
 by_cases ho : o = []
 ·rw [if_pos (by rw [ho]; rfl), if_pos (by omega), if_pos ho, if_pos ho]
  by_cases h1 : t.f0 = 1
  ·rw [if_pos h1, if_pos h1]
   try simp only [Option.bind_some]
   rw [if_pos (by simp; omega), if_pos (by simp; omega), List.nil_append]
  ·rw [if_neg h1, if_neg h1]
 ·obtain ⟨e1, e2⟩ := rd_last ho hd
  have hpos : 0 < o.length := List.length_pos_iff.2 ho
  have hm := h.o _ (lastI_mem ho)
  have hk := h.k
  rw [if_neg (by omega), e1, e2, if_pos (by omega), if_pos (by omega), if_neg ho, if_neg ho]
  try simp only [Option.bind_some]
  have hrd : rd_T33 (l ++ [fm t]) (lastI o) = (l ++ [fm t]).getD (lastI o).toNat zFm := rfl
  have hkl : ((l ++ [fm t]).getD (lastI o).toNat zFm).f3.length ≤ 400 := by
   rw [getD_app]
   split
   ·simp [fm]
   ·have := hk (lastI o).toNat
    omega
  rw [if_pos hm.1, if_pos (by rw [List.length_append]; simp; omega), hrd, List.nil_append, if_pos (by simp only [List.length_nil]; omega), if_pos (by omega)]
  have hkid : (l ++ [fm t]).set (lastI o).toNat ⟨((l ++ [fm t]).getD (lastI o).toNat zFm).f0, ((l ++ [fm t]).getD (lastI o).toNat zFm).f1, ((l ++ [fm t]).getD (lastI o).toNat zFm).f2, ((l ++ [fm t]).getD (lastI o).toNat zFm).f3 ++ [(l.length : Int)], ((l ++ [fm t]).getD (lastI o).toNat zFm).f4⟩ = kid (l ++ [fm t]) (lastI o).toNat l.length := rfl
  rw [hkid]
  by_cases h1 : t.f0 = 1
  ·rw [if_pos h1, if_pos h1]
   try simp only [Option.bind_some]
   rw [if_pos (by simp; omega), if_pos (by simp; omega), List.nil_append]
  ·rw [if_neg h1, if_neg h1]
theorem parse_ev (x : List Tk) (hx : x.length ≤ 1000000) : ∀ (ts : List Tk) (i : Nat) (l : List Fm) (top o : List Int), x.drop i = ts → i ≤ x.length → PI l top o → Ev (fun k => reticuleref07_Parse.l0 k x l top o (i : Int)) (pspec ts l top o)
 | [], i, l, top, o, hd, hi, h => by
  have hil : i = x.length := by
   have := congrArg List.length hd
   simp at this
   omega
  refine ⟨1, fun k hk => ?_⟩
  show reticuleref07_Parse.l0 k x l top o (i : Int) = _
  obtain ⟨k, rfl⟩ : ∃ m, k = m + 1 := ⟨k - 1, by omega⟩
  rw [reticuleref07_Parse.l0, if_neg (by omega), pspec]
  by_cases ho : o = []
  ·rw [if_neg (by rw [ho]; simp), if_pos ho]
  ·obtain ⟨e1, e2⟩ := rd_last ho h.d
   have hpos : 0 < o.length := List.length_pos_iff.2 ho
   have hm := h.o _ (lastI_mem ho)
   rw [if_pos (by omega), e1, e2, if_pos (by omega), if_pos (by omega), if_pos hm.1, if_pos hm.2, if_neg ho]
   rfl
 | t :: ts, i, l, top, o, hd, hi, h => by
  obtain ⟨hlt, hr, hd'⟩ := rdT x i t ts hd
  have hw : wrap64 ((i : Int) + 1) = ((i + 1 : Nat) : Int) := by unfold wrap64; omega
  have head : ∀ k, reticuleref07_Parse.l0 (k + 1) x l top o (i : Int) = _ := fun k => by
   rw [reticuleref07_Parse.l0, if_pos (by omega), if_pos (by omega), hr]
  rw [pspec]
  by_cases h2 : t.f0 = 2
  ·rw [if_pos h2]
   by_cases ho : o = []
   ·rw [if_pos ho]
    refine ⟨1, fun k hk => ?_⟩
    show reticuleref07_Parse.l0 k x l top o (i : Int) = _
    obtain ⟨k, rfl⟩ : ∃ m, k = m + 1 := ⟨k - 1, by omega⟩
    rw [head, if_pos h2, if_pos (by rw [ho]; rfl)]
   ·rw [if_neg ho]
    obtain ⟨K, hK⟩ := parse_ev x hx ts (i + 1) l top (o.take (o.length - 1)) hd' (by omega) h.pop
    refine ⟨K + 1, fun k hk => ?_⟩
    show reticuleref07_Parse.l0 k x l top o (i : Int) = _
    obtain ⟨k, rfl⟩ : ∃ m, k = m + 1 := ⟨k - 1, by omega⟩
    obtain ⟨e1, e2⟩ := rd_last ho h.d
    have hpos : 0 < o.length := List.length_pos_iff.2 ho
    have hd12 := h.d
    rw [head, if_pos h2, if_neg (by omega)]
    simp only [Option.bind_some]
    rw [e1, if_pos (by omega), if_pos (by omega), Int.toNat_natCast]
    try simp only [Option.bind_some]
    rw [if_pos (by simp; omega), List.nil_append, hw]
    exact hK k (by omega)
  ·rw [if_neg h2]
   by_cases hs : t.f0 ≠ 1 ∧ t.f0 ≠ 3 ∧ t.f0 ≠ 4
   ·rw [if_pos hs]
    obtain ⟨K, hK⟩ := parse_ev x hx ts (i + 1) l top o hd' (by omega) h
    refine ⟨K + 2, fun k hk => ?_⟩
    show reticuleref07_Parse.l0 k x l top o (i : Int) = _
    obtain ⟨k, rfl⟩ : ∃ m, k = m + 2 := ⟨k - 2, by omega⟩
    rw [head, if_neg h2, if_neg hs.1, if_neg hs.2.1, reticuleref07_Parse.j1, if_pos (by simpa using hs.2.2), hw]
    exact hK k (by omega)
   ·rw [if_neg hs]
    have hj1 : ∀ k, reticuleref07_Parse.l0 (k + 2) x l top o (i : Int) = reticuleref07_Parse.j1 (k + 1) x l top o (i : Int) false t.f0 t.f1 t.f2 t.f3 := fun k => by
     rw [head, if_neg h2]
     by_cases a1 : t.f0 = 1
     ·rw [if_pos a1]
     ·rw [if_neg a1]
      by_cases a3 : t.f0 = 3
      ·rw [if_pos a3]
      ·rw [if_neg a3]
       have a4 : t.f0 = 4 := by
        apply Classical.byContradiction
        intro a4
        exact hs ⟨a1, a3, a4⟩
       rw [a4]
       rfl
    have hj2 : ∀ k, reticuleref07_Parse.l0 (k + 3) x l top o (i : Int) = reticuleref07_Parse.j2 (k + 1) x l top o (i : Int) (decide ((t.f0 = 1 ∧ 12 ≤ o.length) ∨ 400 ≤ l.length)) t.f0 t.f1 t.f2 t.f3 := fun k => by
     rw [hj1, reticuleref07_Parse.j1, if_neg (by decide)]
     by_cases a1 : t.f0 = 1
     ·rw [if_pos a1]
      by_cases a2 : 12 ≤ o.length
      ·rw [if_pos (by omega), decide_eq_true (Or.inl ⟨a1, a2⟩)]
      ·rw [if_neg (by omega)]
       congr 1
       rw [decide_eq_decide]
       omega
     ·rw [if_neg a1]
      congr 1
      rw [decide_eq_decide]
      constructor
      ·intro q; exact Or.inr (by omega)
      ·rintro (q | q)
       ·exact absurd q.1 a1
       ·omega
    by_cases he : (t.f0 = 1 ∧ 12 ≤ o.length) ∨ 400 ≤ l.length
    ·rw [if_pos he]
     refine ⟨3, fun k hk => ?_⟩
     show reticuleref07_Parse.l0 k x l top o (i : Int) = _
     obtain ⟨k, rfl⟩ : ∃ m, k = m + 3 := ⟨k - 3, by omega⟩
     rw [hj2, reticuleref07_Parse.j2, if_pos (decide_eq_true he)]
    ·rw [if_neg he]
     have hn : l.length < 400 := by omega
     have hdd : t.f0 = 1 → o.length < 12 := fun q => by omega
     obtain ⟨K, hK⟩ := parse_ev x hx ts (i + 1) _ _ _ hd' (by omega) (h.add t hn hdd)
     refine ⟨K + 4, fun k hk => ?_⟩
     show reticuleref07_Parse.l0 k x l top o (i : Int) = _
     obtain ⟨k, rfl⟩ : ∃ m, k = m + 4 := ⟨k - 4, by omega⟩
     have e3 : reticuleref07_Parse.l0 (k + 4) x l top o (i : Int) = reticuleref07_Parse.j3 (k + 1) x l top o (i : Int) t.f0 t.f1 t.f2 t.f3 (fm t).f0 (fm t).f1 (fm t).f2 (fm t).f4 := by
      rw [hj2 (k + 1), reticuleref07_Parse.j2, if_neg (by rw [decide_eq_false he]; decide)]
      unfold fm
      by_cases a3 : t.f0 = 3
      ·rw [if_pos a3]
       simp only [a3, if_true]
       rfl
      ·rw [if_neg a3]
       by_cases a4 : t.f0 = 4
       ·rw [if_pos a4]
        simp only [a4]
        rfl
       ·rw [if_neg a4]
        simp only [a3, a4, if_false]
     rw [e3, j3_eq x hx i l top o h hlt t k hn]
     exact hK k (by omega)
theorem parse_f (x : List Tk) (hx : x.length ≤ 1000000) : Ev (fun k => reticuleref07_Parse.f k x) (pspec x [] [] []) :=
 parse_ev x hx x 0 [] [] [] rfl (Nat.zero_le _) ⟨by simp, by simp, by simp, (by intro b hb; cases hb), fun i => by simp; rfl⟩
end Go.Proofs.Ytldjbgonlbmeaaa.F
end
section
/- Forests, and how they stand in a list of forms: plain, no program in sight. -/
set_option linter.unusedSimpArgs false
set_option linter.unusedVariables false
namespace Go.Proofs.Ytldjbgonlbmeaaa.F
open Go.Proofs.Ytldjbgonlbmeaaa.T (Fm zFm)
inductive Fo
 | nil
 | lf (f : Fm) (r : Fo)
 | br (f : Fm) (ks r : Fo)
def ent (f : Fm) (ks : List Int) : Fm := ⟨f.f0, f.f1, f.f2, ks, f.f4⟩
namespace Fo
def size : Fo → Nat
 | nil => 0
 | lf _ r => r.size + 1
 | br _ ks r => ks.size + r.size + 1
def dep : Fo → Nat
 | nil => 0
 | lf _ r => r.dep
 | br _ ks r => max (ks.dep + 1) r.dep
def pls : Fo → Nat → List Int
 | nil, _ => []
 | lf _ r, n => (n : Int) :: r.pls (n + 1)
 | br _ ks r, n => (n : Int) :: r.pls (n + 1 + ks.size)
def num : Fo → Nat
 | nil => 0
 | lf _ r => r.num + 1
 | br _ _ r => r.num + 1
theorem pls_len : ∀ (F : Fo) (n : Nat), (F.pls n).length = F.num
 | nil, _ => rfl
 | lf _ r, n => by simp [pls, num, pls_len r]
 | br _ ks r, n => by simp [pls, num, pls_len r]
theorem num_le : ∀ (F : Fo), F.num ≤ F.size
 | nil => Nat.le_refl _
 | lf _ r => by have := num_le r; simp [num, size]; omega
 | br _ ks r => by have := num_le r; simp [num, size]; omega
theorem pls_in : ∀ (F : Fo) (n : Nat) (p : Int), p ∈ F.pls n → (n : Int) ≤ p ∧ p < (n + F.size : Nat)
 | nil, _, p, h => by cases h
 | lf _ r, n, p, h => by
  rcases List.mem_cons.1 h with h | h
  ·subst h; simp [size]; omega
  ·have := pls_in r (n + 1) p h; simp [size]; omega
 | br _ ks r, n, p, h => by
  rcases List.mem_cons.1 h with h | h
  ·subst h; simp [size]; omega
  ·have := pls_in r (n + 1 + ks.size) p h; simp [size]; omega
end Fo
def Fl (l : List Fm) : Fo → Nat → Prop
 | .nil, _ => True
 | .lf f r, n => n < l.length ∧ l.getD n zFm = ent f [] ∧ Fl l r (n + 1)
 | .br f ks r, n => n < l.length ∧ l.getD n zFm = ent f (ks.pls (n + 1)) ∧ Fl l ks (n + 1) ∧ Fl l r (n + 1 + ks.size)
theorem Fl.le {l : List Fm} : ∀ {F : Fo} {n : Nat}, Fl l F n → n ≤ l.length → n + F.size ≤ l.length
 | .nil, n, _, h => h
 | .lf _ r, n, h, hn => by have := Fl.le h.2.2 h.1; simp only [Fo.size]; omega
 | .br _ ks r, n, h, hn => by
  have h1 := Fl.le h.2.2.1 h.1
  have := Fl.le h.2.2.2 h1
  simp only [Fo.size]; omega
theorem Fl.congr {l l' : List Fm} (hl : l.length ≤ l'.length) : ∀ {F : Fo} {n : Nat}, Fl l F n → (∀ i, n ≤ i → i < n + F.size → l'.getD i zFm = l.getD i zFm) → Fl l' F n
 | .nil, n, _, _ => trivial
 | .lf _ r, n, h, e => ⟨Nat.lt_of_lt_of_le h.1 hl, (e n (Nat.le_refl _) (by simp only [Fo.size]; omega)).trans h.2.1, Fl.congr hl h.2.2 fun i h1 h2 => e i (by omega) (by simp only [Fo.size]; omega)⟩
 | .br _ ks r, n, h, e => ⟨Nat.lt_of_lt_of_le h.1 hl, (e n (Nat.le_refl _) (by simp only [Fo.size]; omega)).trans h.2.1, Fl.congr hl h.2.2.1 fun i h1 h2 => e i (by omega) (by simp only [Fo.size]; omega), Fl.congr hl h.2.2.2 fun i h1 h2 => e i (by omega) (by simp only [Fo.size]; omega)⟩
def Fo.all (P : Fm → Prop) (Q : Fm → Prop) : Fo → Prop
 | .nil => True
 | .lf f r => P f ∧ r.all P Q
 | .br f ks r => Q f ∧ ks.all P Q ∧ r.all P Q
theorem Fl.at {l : List Fm} {P Q : Fm → Prop} : ∀ {F : Fo} {n : Nat}, Fl l F n → F.all P Q → ∀ i, n ≤ i → i < n + F.size →
  (∃ f, P f ∧ l.getD i zFm = ent f []) ∨ (∃ f ks, Q f ∧ l.getD i zFm = ent f (Fo.pls ks (i + 1)) ∧ Fl l ks (i + 1) ∧ i + 1 + ks.size ≤ n + F.size ∧ ks.all P Q)
 | .nil, n, _, _, i, h1, h2 => by simp only [Fo.size] at h2; omega
 | .lf f r, n, h, ha, i, h1, h2 => by
  by_cases hi : i = n
  ·subst hi; exact Or.inl ⟨f, ha.1, h.2.1⟩
  ·simp only [Fo.size] at h2 ⊢
   rcases Fl.at h.2.2 ha.2 i (by omega) (by omega) with h3 | ⟨g, ks, a, b, c, d, e⟩
   ·exact Or.inl h3
   ·exact Or.inr ⟨g, ks, a, b, c, by omega, e⟩
 | .br f ks r, n, h, ha, i, h1, h2 => by
  simp only [Fo.size] at h2 ⊢
  by_cases hi : i = n
  ·subst hi; exact Or.inr ⟨f, ks, ha.1, h.2.1, h.2.2.1, by omega, ha.2.1⟩
  ·by_cases hk : i < n + 1 + ks.size
   ·rcases Fl.at h.2.2.1 ha.2.1 i (by omega) (by omega) with h3 | ⟨g, ks', a, b, c, d, e⟩
    ·exact Or.inl h3
    ·exact Or.inr ⟨g, ks', a, b, c, by omega, e⟩
   ·rcases Fl.at h.2.2.2 ha.2.2 i (by omega) (by omega) with h3 | ⟨g, ks', a, b, c, d, e⟩
    ·exact Or.inl h3
    ·exact Or.inr ⟨g, ks', a, b, c, by omega, e⟩
end Go.Proofs.Ytldjbgonlbmeaaa.F
end
section
/- Plain law: what is parsed is a forest, and a forest's tokens are parsed. -/
set_option linter.unusedSimpArgs false
set_option linter.unusedVariables false
namespace Go.Proofs.Ytldjbgonlbmeaaa.F
open Go.Proofs.Ytldjbgonlbmeaaa.T (Fm zFm)
def Tks : Fo → List Tk → List Tk → Prop
 | .nil, ts, rest => ts = rest
 | .lf f r, ts, rest => ∃ t ts', ts = t :: ts' ∧ (t.f0 = 3 ∨ t.f0 = 4) ∧ fm t = f ∧ Tks r ts' rest
 | .br f ks r, ts, rest => ∃ t ts' c ts'', ts = t :: ts' ∧ t.f0 = 1 ∧ fm t = f ∧ c.f0 = 2 ∧ Tks ks ts' (c :: ts'') ∧ Tks r ts'' rest
def Dcm : List Tk → List Fo → Prop
 | ts, [] => False
 | ts, [F] => Tks F ts []
 | ts, F :: G :: Fs => ∃ c ts', (c : Tk).f0 = 2 ∧ Tks F ts (c :: ts') ∧ Dcm ts' (G :: Fs)
theorem Dcm.leaf {t : Tk} {ts : List Tk} (h : t.f0 = 3 ∨ t.f0 = 4) : ∀ {Fs : List Fo} {F : Fo}, Dcm ts (F :: Fs) → Dcm (t :: ts) (.lf (fm t) F :: Fs)
 | [], F, d => ⟨t, ts, rfl, h, rfl, d⟩
 | G :: Fs, F, ⟨c, ts', h2, k, d⟩ => ⟨c, ts', h2, ⟨t, ts, rfl, h, rfl, k⟩, d⟩
theorem Dcm.open {t : Tk} {ts : List Tk} (h : t.f0 = 1) : ∀ {Fs : List Fo} {F G : Fo}, Dcm ts (F :: G :: Fs) → Dcm (t :: ts) (.br (fm t) F G :: Fs)
 | [], F, G, ⟨c, ts', h2, k, d⟩ => ⟨t, ts, c, ts', rfl, h, rfl, h2, k, d⟩
 | H :: Fs, F, G, ⟨c, ts', h2, k, c', ts'', h3, k', d⟩ => ⟨c', ts'', h3, ⟨t, ts, c, ts', rfl, h, rfl, h2, k, k'⟩, d⟩
theorem parse_dec : ∀ (ts : List Tk) (l : List Fm) (top o : List Int), (∀ t ∈ ts, t.f0 = 1 ∨ t.f0 = 2 ∨ t.f0 = 3 ∨ t.f0 = 4) → (pspec ts l top o).2.2.2 = 0 → ∃ Fs, Fs.length = o.length + 1 ∧ Dcm ts Fs
 | [], l, top, o, _, h => by
  rw [pspec] at h
  by_cases ho : o = []
  ·exact ⟨[.nil], by rw [ho]; rfl, rfl⟩
  ·rw [if_neg ho] at h
   exact absurd h (by simp)
 | t :: ts, l, top, o, ht, h => by
  have ht' := fun u hu => ht u (List.mem_cons_of_mem _ hu)
  have h0 := ht t (List.mem_cons_self ..)
  rw [pspec] at h
  by_cases h2 : t.f0 = 2
  ·rw [if_pos h2] at h
   by_cases ho : o = []
   ·rw [if_pos ho] at h
    exact absurd h (by simp)
   ·rw [if_neg ho] at h
    have hpos : 0 < o.length := List.length_pos_iff.2 ho
    obtain ⟨Fs, hl, hd⟩ := parse_dec ts l top _ ht' h
    match Fs, hl, hd with
    | G :: Gs, hl, hd =>
     refine ⟨.nil :: G :: Gs, ?_, t, ts, h2, rfl, hd⟩
     simp only [List.length_cons, List.length_take] at hl ⊢
     omega
  ·rw [if_neg h2, if_neg (by omega)] at h
   by_cases he : (t.f0 = 1 ∧ 12 ≤ o.length) ∨ 400 ≤ l.length
   ·rw [if_pos he] at h
    exact absurd h (by simp)
   ·rw [if_neg he] at h
    obtain ⟨Fs, hl, hd⟩ := parse_dec ts _ _ _ ht' h
    by_cases h1 : t.f0 = 1
    ·rw [if_pos h1, List.length_append] at hl
     match Fs, hl, hd with
     | F :: G :: Gs, hl, hd => exact ⟨_, by simp at hl ⊢; omega, hd.open h1⟩
    ·rw [if_neg h1] at hl
     match Fs, hl, hd with
     | F :: Gs, hl, hd => exact ⟨_, by simp at hl ⊢; omega, hd.leaf (by omega)⟩
def Gr (l l' : List Fm) (o ps : List Int) : Prop := ∀ i, i < l.length → l'.getD i zFm = if o ≠ [] ∧ i = (lastI o).toNat then ent (l.getD i zFm) ((l.getD i zFm).f3 ++ ps) else l.getD i zFm
theorem Gr.trans {l l' l'' : List Fm} {o ps qs : List Int} (hl : l.length ≤ l'.length) (h : Gr l l' o ps) (h' : Gr l' l'' o qs) : Gr l l'' o (ps ++ qs) := fun i hi => by
 rw [h' i (by omega), h i hi]
 by_cases hp : o ≠ [] ∧ i = (lastI o).toNat
 ·rw [if_pos hp, if_pos hp, if_pos hp]
  simp only [ent, List.append_assoc]
 ·rw [if_neg hp, if_neg hp, if_neg hp]
theorem Gr.nil (l : List Fm) (o : List Int) : Gr l l o [] := fun i hi => by
 split
 ·rw [List.append_nil]; rfl
 ·rfl
theorem fm_f3 (t : Tk) : ent (fm t) [] = fm t := rfl
theorem last_app (o : List Int) (n : Int) : lastI (o ++ [n]) = n ∧ o ++ [n] ≠ [] ∧ (o ++ [n]).take ((o ++ [n]).length - 1) = o := by
 refine ⟨?_, by simp, by simp⟩
 unfold lastI
 simp [List.getD_eq_getElem?_getD]
theorem step_gr {l : List Fm} {top o : List Int} (h : PI l top o) (t : Tk) :
  (if o = [] then l ++ [fm t] else kid (l ++ [fm t]) (lastI o).toNat l.length).length = l.length + 1 ∧
  Gr l (if o = [] then l ++ [fm t] else kid (l ++ [fm t]) (lastI o).toNat l.length) o [(l.length : Int)] ∧
  (if o = [] then l ++ [fm t] else kid (l ++ [fm t]) (lastI o).toNat l.length).getD l.length zFm = fm t := by
 by_cases ho : o = []
 ·rw [if_pos ho]
  refine ⟨by simp, fun i hi => ?_, by rw [getD_app, if_pos rfl]⟩
  rw [getD_app, if_neg (by omega), if_neg (by rintro ⟨a, _⟩; exact a ho)]
 ·rw [if_neg ho]
  have hm := h.o _ (lastI_mem ho)
  refine ⟨by rw [kid_len]; simp, fun i hi => ?_, ?_⟩
  ·rw [getD_kid, List.length_append]
   by_cases hi2 : i = (lastI o).toNat
   ·rw [if_pos ⟨hi2, by simp; omega⟩, if_pos ⟨ho, hi2⟩, getD_app, if_neg (by omega), hi2]; rfl
   ·rw [if_neg (fun a => hi2 a.1), if_neg (fun a => hi2 a.2), getD_app, if_neg (by omega)]
  ·rw [getD_kid, if_neg (by rintro ⟨a, _⟩; omega), getD_app, if_pos rfl]
theorem parse_fo : ∀ (F : Fo) (ts rest : List Tk) (l : List Fm) (top o : List Int), Tks F ts rest → PI l top o → ((pspec ts l top o).2.2.2 = 0 ∨ (o.length + F.dep ≤ 12 ∧ l.length + F.size ≤ 400)) →
  ∃ l', pspec ts l top o = pspec rest l' (if o = [] then top ++ F.pls l.length else top) o ∧ PI l' (if o = [] then top ++ F.pls l.length else top) o ∧ l'.length = l.length + F.size ∧ o.length + F.dep ≤ 12 ∧ Gr l l' o (F.pls l.length) ∧ Fl l' F l.length
 | .nil, ts, rest, l, top, o, h, hp, hc => by
  refine ⟨l, ?_, ?_, rfl, hp.d, Gr.nil l o, trivial⟩
  ·rw [show ts = rest from h]; simp [Fo.pls]
  ·simpa [Fo.pls] using hp
 | .lf f r, ts, rest, l, top, o, ⟨t, ts', e, ht, hf, hr⟩, hp, hc => by
  subst e; subst hf
  have hstep : ¬ ((t.f0 = 1 ∧ 12 ≤ o.length) ∨ 400 ≤ l.length) := by
   rcases hc with hc | hc
   ·intro he
    rw [pspec, if_neg (by omega), if_neg (by omega), if_pos he] at hc
    exact absurd hc (by simp)
   ·have := hc.2
    simp only [Fo.size] at this
    omega
  have hs : pspec (t :: ts') l top o = pspec ts' (if o = [] then l ++ [fm t] else kid (l ++ [fm t]) (lastI o).toNat l.length) (if o = [] then top ++ [(l.length : Int)] else top) o := by
   rw [pspec, if_neg (by omega), if_neg (by omega), if_neg hstep, if_neg (show ¬ t.f0 = 1 by omega)]
  have hp1 := hp.add t (by omega) (by omega)
  rw [if_neg (show ¬ t.f0 = 1 by omega)] at hp1
  obtain ⟨g1, g2, g3⟩ := step_gr hp t
  rw [hs] at hc
  obtain ⟨l', a1, a2, a3, a4, a5, a6⟩ := parse_fo r ts' rest _ _ o hr hp1 (hc.imp id fun q => by simp only [Fo.size, Fo.dep] at q; rw [g1]; omega)
  rw [g1] at a1 a2 a3 a5 a6
  have htop : (if o = [] then (if o = [] then top ++ [(l.length : Int)] else top) ++ r.pls (l.length + 1) else (if o = [] then top ++ [(l.length : Int)] else top)) = if o = [] then top ++ (Fo.lf (fm t) r).pls l.length else top := by
   by_cases ho : o = []
   ·simp [ho, Fo.pls]
   ·simp [ho]
  rw [htop] at a1 a2
  refine ⟨l', hs.trans a1, a2, by rw [a3]; simp only [Fo.size]; omega, a4, g2.trans (by omega) a5, by rw [a3]; omega, ?_, a6⟩
  rw [a5 l.length (by omega), if_neg ?_, g3, fm_f3]
  rintro ⟨b1, b2⟩
  have := hp.o _ (lastI_mem b1)
  omega
 | .br f ks r, ts, rest, l, top, o, ⟨t, ts', c, ts'', e, ht, hf, hcl, hk, hr⟩, hp, hc => by
  subst e; subst hf
  have hstep : ¬ ((t.f0 = 1 ∧ 12 ≤ o.length) ∨ 400 ≤ l.length) := by
   rcases hc with hc | hc
   ·intro he
    rw [pspec, if_neg (by omega), if_neg (by omega), if_pos he] at hc
    exact absurd hc (by simp)
   ·have h1 := hc.1
    have h2 := hc.2
    simp only [Fo.size, Fo.dep] at h1 h2
    omega
  have hs : pspec (t :: ts') l top o = pspec ts' (if o = [] then l ++ [fm t] else kid (l ++ [fm t]) (lastI o).toNat l.length) (if o = [] then top ++ [(l.length : Int)] else top) (o ++ [(l.length : Int)]) := by
   rw [pspec, if_neg (by omega), if_neg (by omega), if_neg hstep, if_pos ht]
  have hp1 := hp.add t (by omega) (by omega)
  rw [if_pos ht] at hp1
  obtain ⟨g1, g2, g3⟩ := step_gr hp t
  obtain ⟨z1, z2, z3⟩ := last_app o (l.length : Int)
  rw [hs] at hc
  obtain ⟨l', a1, a2, a3, a4, a5, a6⟩ := parse_fo ks ts' (c :: ts'') _ _ _ hk hp1 (hc.imp id fun q => by simp only [Fo.size, Fo.dep] at q; rw [g1, List.length_append]; simp only [List.length_cons, List.length_nil]; omega)
  rw [g1] at a1 a2 a3 a5 a6
  rw [if_neg z2] at a1 a2
  have hs2 : pspec (c :: ts'') l' (if o = [] then top ++ [(l.length : Int)] else top) (o ++ [(l.length : Int)]) = pspec ts'' l' (if o = [] then top ++ [(l.length : Int)] else top) o := by
   rw [pspec, if_pos hcl, if_neg z2, z3]
  have hp2 := a2.pop
  rw [z3] at hp2
  rw [a1, hs2] at hc
  obtain ⟨l2, b1, b2, b3, b4, b5, b6⟩ := parse_fo r ts'' rest _ _ o hr hp2 (hc.imp id fun q => by simp only [Fo.size, Fo.dep] at q; rw [a3]; omega)
  have hll : l'.length = l.length + 1 + ks.size := a3
  rw [hll] at b1 b2 b3 b5 b6
  have htop : (if o = [] then (if o = [] then top ++ [(l.length : Int)] else top) ++ r.pls (l.length + 1 + ks.size) else (if o = [] then top ++ [(l.length : Int)] else top)) = if o = [] then top ++ (Fo.br (fm t) ks r).pls l.length else top := by
   by_cases ho : o = []
   ·simp [ho, Fo.pls]
   ·simp [ho]
  rw [htop] at b1 b2
  have a4' : o.length + 1 + ks.dep ≤ 12 := by rw [List.length_append] at a4; simpa using a4
  have hg : Gr l l' o [(l.length : Int)] := fun i hi => by
   rw [a5 i (by omega), if_neg (by rw [z1]; rintro ⟨_, q⟩; omega), g2 i hi]
  refine ⟨l2, hs.trans (a1.trans (hs2.trans b1)), b2, by rw [b3]; simp only [Fo.size]; omega, by simp only [Fo.dep]; omega, hg.trans (by omega) b5, by rw [b3]; omega, ?_, ?_, b6⟩
  ·rw [b5 l.length (by omega), if_neg ?_, a5 l.length (by omega), if_pos ⟨z2, by rw [z1]; rfl⟩, g3]
   ·rfl
   ·rintro ⟨q1, q2⟩
    have := hp.o _ (lastI_mem q1)
    omega
  ·refine a6.congr (by omega) fun i h1 h2 => ?_
   rw [b5 i (by omega), if_neg]
   rintro ⟨q1, q2⟩
   have := hp.o _ (lastI_mem q1)
   omega
theorem PI.zero : PI [] [] [] := ⟨by simp, by simp, by simp, (by intro b hb; cases hb), fun i => by simp; rfl⟩
theorem parse_some (ts : List Tk) (ht : ∀ t ∈ ts, t.f0 = 1 ∨ t.f0 = 2 ∨ t.f0 = 3 ∨ t.f0 = 4) (h : (pspec ts [] [] []).2.2.2 = 0) :
  ∃ F l, Tks F ts [] ∧ pspec ts [] [] [] = (l, F.pls 0, 0, 0) ∧ l.length = F.size ∧ F.size ≤ 400 ∧ F.dep ≤ 12 ∧ Fl l F 0 := by
 obtain ⟨Fs, hl, hd⟩ := parse_dec ts [] [] [] ht h
 match Fs, hl, hd with
 | [F], hl, hd =>
  obtain ⟨l, a1, a2, a3, a4, a5, a6⟩ := parse_fo F ts [] [] [] [] hd PI.zero (Or.inl h)
  refine ⟨F, l, hd, ?_, by simpa using a3, by have := a2.n; rw [a3] at this; simpa using this, by simpa using a4, a6⟩
  rw [a1]
  rfl
theorem parse_to (F : Fo) (ts : List Tk) (h : Tks F ts []) (hd : F.dep ≤ 12) (hs : F.size ≤ 400) :
  ∃ l, pspec ts [] [] [] = (l, F.pls 0, 0, 0) ∧ l.length = F.size ∧ Fl l F 0 := by
 obtain ⟨l, a1, a2, a3, a4, a5, a6⟩ := parse_fo F ts [] [] [] [] h PI.zero (Or.inr ⟨by simpa using hd, by simpa using hs⟩)
 refine ⟨l, ?_, by simpa using a3, a6⟩
 rw [a1]
 rfl
end Go.Proofs.Ytldjbgonlbmeaaa.F
end
section
/- Plain law: a forest's text, in one line each and laid out. -/
set_option linter.unusedSimpArgs false
set_option linter.unusedVariables false
namespace Go.Proofs.Ytldjbgonlbmeaaa.F
open Go.Proofs.Ytldjbgonlbmeaaa.T (Fm zFm wone wkids flatL lineL nst fstk frk fr oneS)
open Go.Proofs.Ytldjbgonlbmeaaa.Dig (text)
def leafT (f : Fm) : List UInt8 := if f.f0 = 4 then text f.f2 else f.f1.data.toList
def IsLeaf (f : Fm) : Prop := f.f0 = 3 ∨ f.f0 = 4
def IsBr (f : Fm) : Prop := f.f0 = 1
namespace Fo
def tx : Fo → Bool → List UInt8
 | nil, _ => []
 | lf f r, first => (if first then [] else [32]) ++ leafT f ++ r.tx false
 | br _ ks r, first => (if first then [] else [32]) ++ [40] ++ ks.tx true ++ [41] ++ r.tx false
def pl : Fo → List UInt8
 | nil => []
 | lf f r => leafT f ++ [10] ++ r.pl
 | br _ ks r => [40] ++ ks.tx true ++ [41] ++ [10] ++ r.pl
def py : Fo → Nat → Bool → Bool → List UInt8
 | nil, _, _, _ => []
 | lf f r, deep, first, seen => (if seen then lineL deep else if first then [] else [32]) ++ leafT f ++ r.py deep false seen
 | br _ ks r, deep, _, _ => lineL deep ++ ([40] ++ ks.py (deep + 1) true false ++ [41]) ++ r.py deep false true
def yl : Fo → List UInt8
 | nil => []
 | lf f r => leafT f ++ [10] ++ r.yl
 | br _ ks r => [40] ++ ks.py 1 true false ++ [41] ++ [10] ++ r.yl
def lead : Fo → Nat
 | lf _ r => r.lead + 1
 | _ => 0
theorem py_flat : ∀ (F : Fo) (deep : Nat) (first : Bool), F.lead = F.num → F.py deep first false = F.tx first
 | nil, _, _, _ => rfl
 | lf _ r, deep, first, h => by
  simp only [lead, num] at h
  simp only [py, tx, py_flat r deep false (by omega)]
  rfl
 | br _ _ r, deep, first, h => by simp only [lead, num] at h; omega
end Fo
theorem ent_f (f : Fm) (ks : List Int) : (ent f ks).f0 = f.f0 ∧ (ent f ks).f1 = f.f1 ∧ (ent f ks).f2 = f.f2 ∧ (ent f ks).f3 = ks ∧ (ent f ks).f4 = f.f4 := ⟨rfl, rfl, rfl, rfl, rfl⟩
theorem wone_leaf {l : List Fm} {f : Fm} {n d left : Nat} {out : List UInt8} (h : l.getD n zFm = ent f []) (hf : IsLeaf f) (hd : 1 ≤ d) (hl : 1 ≤ left) : wone l d (n : Int) left out = (true, left - 1, out ++ leafT f) := by
 obtain ⟨d, rfl⟩ : ∃ m, d = m + 1 := ⟨d - 1, by omega⟩
 rw [wone, if_neg (by omega)]
 simp only [Int.toNat_natCast, h]
 rw [(ent_f f []).1, (ent_f f []).2.1, (ent_f f []).2.2.1]
 unfold leafT
 rcases hf with e | e
 ·rw [if_neg (by omega), if_pos e, if_neg (by omega)]
 ·rw [if_pos e, if_pos e]
theorem wkids_fo {l : List Fm} : ∀ (F : Fo) (n : Nat) (at_ : Int) (d left : Nat) (out : List UInt8) (first : Bool), Fl l F n → F.all IsLeaf IsBr → at_ < n → n ≤ l.length → F.size ≤ d → F.size ≤ left →
  wkids (wone l d) l.length at_ (F.pls n) first left out = (true, left - F.size, out ++ F.tx first ++ [41])
 | .nil, n, at_, d, left, out, first, _, _, _, _, _, _ => by simp [Fo.pls, Fo.size, Fo.tx, wkids]
 | .lf f r, n, at_, d, left, out, first, h, ha, hn, hnl, hd, hl => by
  simp only [Fo.size] at hd hl
  obtain ⟨h1, h2, h3⟩ := h
  rw [Fo.pls, wkids, if_neg (by omega), wone_leaf h2 ha.1 (by omega) (by omega), if_pos rfl]
  simp only
  rw [wkids_fo r (n + 1) at_ d (left - 1) _ false h3 ha.2 (by omega) (by omega) (by omega) (by omega)]
  simp only [Fo.size, Fo.tx]
  refine Prod.ext rfl (Prod.ext (by simp only; omega) ?_)
  cases first <;> simp
 | .br f ks r, n, at_, d, left, out, first, h, ha, hn, hnl, hd, hl => by
  simp only [Fo.size] at hd hl
  obtain ⟨h1, h2, h3, h4⟩ := h
  have hle := h3.le h1
  obtain ⟨d, rfl⟩ : ∃ m, d = m + 1 := ⟨d - 1, by omega⟩
  have hb : ∀ out, wone l (d + 1) (n : Int) left out = (true, left - 1 - ks.size, out ++ [40] ++ ks.tx true ++ [41]) := fun out => by
   rw [wone, if_neg (by omega)]
   simp only [Int.toNat_natCast, h2]
   rw [(ent_f f _).1, (ent_f f _).2.2.2.1, if_neg (by have := ha.1; unfold IsBr at this; omega), if_neg (by have := ha.1; unfold IsBr at this; omega), if_pos (show f.f0 = 1 from ha.1)]
   rw [wkids_fo ks (n + 1) (n : Int) d (left - 1) _ true h3 ha.2.1 (by omega) (by omega) (by omega) (by omega)]
  rw [Fo.pls, wkids, if_neg (by omega), hb, if_pos rfl]
  simp only
  rw [wkids_fo r (n + 1 + ks.size) at_ (d + 1) _ _ false h4 ha.2.2 (by omega) hle (by omega) (by omega)]
  simp only [Fo.size, Fo.tx]
  refine Prod.ext rfl (Prod.ext (by simp only; omega) ?_)
  cases first <;> simp
theorem flat_lf {l : List Fm} {f : Fm} {r : Fo} {n : Nat} (h : Fl l (.lf f r) n) (ha : IsLeaf f) : flatL l (n : Int) = leafT f := by
 have h1 := h.1
 unfold flatL oneS
 rw [if_neg (by omega), wone_leaf h.2.1 ha (by omega) (by omega), if_pos rfl]
 simp
theorem flat_br {l : List Fm} {f : Fm} {ks r : Fo} {n : Nat} (h : Fl l (.br f ks r) n) (hf : IsBr f) (ha : ks.all IsLeaf IsBr) (hl : l.length ≤ 400) : flatL l (n : Int) = [40] ++ ks.tx true ++ [41] := by
 obtain ⟨h1, h2, h3, h4⟩ := h
 have hle := h3.le h1
 unfold flatL oneS
 have hw : wone l l.length (n : Int) 400 [] = (true, 400 - 1 - ks.size, [] ++ [40] ++ ks.tx true ++ [41]) := by
  obtain ⟨d, hd⟩ : ∃ m, l.length = m + 1 := ⟨l.length - 1, by omega⟩
  rw [hd, wone, if_neg (by omega)]
  simp only [Int.toNat_natCast, h2]
  rw [(ent_f f _).1, (ent_f f _).2.2.2.1, if_neg (by unfold IsBr at hf; omega), if_neg (by unfold IsBr at hf; omega), if_pos (show f.f0 = 1 from hf)]
  rw [wkids_fo ks (n + 1) (n : Int) d (400 - 1) _ true h3 ha (by omega) (by omega) (by omega) (by omega)]
 rw [if_neg (by omega), hw, if_pos rfl]
 simp
theorem pl_fo {l : List Fm} (hl : l.length ≤ 400) : ∀ (F : Fo) (n : Nat), Fl l F n → F.all IsLeaf IsBr → ((F.pls n).flatMap fun t => flatL l t ++ [10]) = F.pl
 | .nil, _, _, _ => rfl
 | .lf f r, n, h, ha => by
  rw [Fo.pls, List.flatMap_cons, flat_lf h ha.1, pl_fo hl r (n + 1) h.2.2 ha.2, Fo.pl]
 | .br f ks r, n, h, ha => by
  rw [Fo.pls, List.flatMap_cons, flat_br h ha.1 ha.2.1 hl, pl_fo hl r _ h.2.2.2 ha.2.2, Fo.pl]
theorem nst_lf {l : List Fm} {f : Fm} {n : Nat} (h : l.getD n zFm = ent f []) (ha : IsLeaf f) : nst l (n : Int) = false := by
 unfold nst
 rw [Int.toNat_natCast, h, (ent_f f []).1]
 have := ha
 unfold IsLeaf at this
 rcases this with e | e <;> rw [e] <;> rfl
theorem nst_br {l : List Fm} {f : Fm} {ks : List Int} {n : Nat} (h : l.getD n zFm = ent f ks) (ha : IsBr f) : nst l (n : Int) = true := by
 unfold nst
 rw [Int.toNat_natCast, h, (ent_f f ks).1, ha]
 rfl
theorem fstk_fo {l : List Fm} : ∀ (F : Fo) (n : Nat), Fl l F n → F.all IsLeaf IsBr → fstk l (F.pls n) = F.lead
 | .nil, _, _, _ => rfl
 | .lf f r, n, h, ha => by
  rw [Fo.pls, fstk, if_neg (by rw [nst_lf h.2.1 ha.1]; decide), fstk_fo r (n + 1) h.2.2 ha.2, Fo.lead]
 | .br f ks r, n, h, ha => by
  rw [Fo.pls, fstk, if_pos (nst_br h.2.1 ha.1)]; rfl
theorem fr_lf {l : List Fm} {f : Fm} {r : Fo} {n d deep : Nat} (h : Fl l (.lf f r) n) (ha : IsLeaf f) (hd : 1 ≤ d) : fr l d (n : Int) deep = leafT f := by
 obtain ⟨d, rfl⟩ : ∃ m, d = m + 1 := ⟨d - 1, by omega⟩
 rw [fr, Int.toNat_natCast, h.2.1, (ent_f f _).2.2.2.1, if_pos (show fstk l [] = ([] : List Int).length from rfl), flat_lf h ha]
theorem frk_fo {l : List Fm} (hl : l.length ≤ 400) : ∀ (F : Fo) (n d deep i first : Nat) (seen : Bool), Fl l F n → F.all IsLeaf IsBr → F.size ≤ d → (seen = true ∧ first ≤ i ∨ seen = false ∧ first = i + F.lead) →
  frk (fun k => fr l d k (deep + 1)) l deep first i (F.pls n) = F.py deep (i == 0) seen
 | .nil, n, d, deep, i, first, seen, _, _, _, _ => rfl
 | .lf f r, n, d, deep, i, first, seen, h, ha, hd, hs => by
  simp only [Fo.size, Fo.lead] at hd hs
  rw [Fo.pls, frk, frk_fo hl r (n + 1) d deep (i + 1) first seen h.2.2 ha.2 (by omega) (hs.imp (fun q => ⟨q.1, by omega⟩) (fun q => ⟨q.1, by omega⟩)), Fo.py]
  have e0 : (i + 1 == 0) = false := by simp
  rw [e0]
  congr 1
  rcases hs with ⟨e, hs⟩ | ⟨e, hs⟩
  ·rw [if_neg (by omega), e, fr_lf h ha.1 (by omega)]; rfl
  ·rw [if_pos (by omega), e, flat_lf h ha.1]
   by_cases hi : i = 0
   ·subst hi; rfl
   ·have : (i == 0) = false := by simpa using hi
    rw [if_pos (by omega), this]; rfl
 | .br f ks r, n, d, deep, i, first, seen, h, ha, hd, hs => by
  simp only [Fo.size, Fo.lead] at hd hs
  obtain ⟨d, rfl⟩ : ∃ m, d = m + 1 := ⟨d - 1, by omega⟩
  have hle := h.2.2.1.le h.1
  have hb : fr l (d + 1) (n : Int) (deep + 1) = [40] ++ ks.py (deep + 1) true false ++ [41] := by
   rw [fr, Int.toNat_natCast, h.2.1, (ent_f f _).2.2.2.1, fstk_fo ks (n + 1) h.2.2.1 ha.2.1, Fo.pls_len]
   by_cases e : ks.lead = ks.num
   ·rw [if_pos e, flat_br h ha.1 ha.2.1 hl, Fo.py_flat ks _ _ e]
   ·rw [if_neg e, frk_fo hl ks (n + 1) d (deep + 1) 0 ks.lead false h.2.2.1 ha.2.1 (by omega) (Or.inr ⟨rfl, by omega⟩)]
    rfl
  rw [Fo.pls, frk, frk_fo hl r _ (d + 1) deep (i + 1) first true h.2.2.2 ha.2.2 (by omega) (Or.inl ⟨rfl, by omega⟩), if_neg (by omega), hb, Fo.py]
  have e0 : (i + 1 == 0) = false := by simp
  rw [e0]
theorem yl_fo {l : List Fm} (hl : l.length ≤ 400) : ∀ (F : Fo) (n d : Nat), Fl l F n → F.all IsLeaf IsBr → F.size ≤ d → ((F.pls n).flatMap fun t => fr l d t 1 ++ [10]) = F.yl
 | .nil, _, _, _, _, _ => rfl
 | .lf f r, n, d, h, ha, hd => by
  simp only [Fo.size] at hd
  rw [Fo.pls, List.flatMap_cons, fr_lf h ha.1 (by omega), yl_fo hl r (n + 1) d h.2.2 ha.2 (by omega), Fo.yl]
 | .br f ks r, n, d, h, ha, hd => by
  simp only [Fo.size] at hd
  obtain ⟨d, rfl⟩ : ∃ m, d = m + 1 := ⟨d - 1, by omega⟩
  have hb : fr l (d + 1) (n : Int) 1 = [40] ++ ks.py 1 true false ++ [41] := by
   rw [fr, Int.toNat_natCast, h.2.1, (ent_f f _).2.2.2.1, fstk_fo ks (n + 1) h.2.2.1 ha.2.1, Fo.pls_len]
   by_cases e : ks.lead = ks.num
   ·rw [if_pos e, flat_br h ha.1 ha.2.1 hl, Fo.py_flat ks _ _ e]
   ·rw [if_neg e, frk_fo hl ks (n + 1) d 1 0 ks.lead false h.2.2.1 ha.2.1 (by omega) (Or.inr ⟨rfl, by omega⟩)]
    rfl
  rw [Fo.pls, List.flatMap_cons, hb, yl_fo hl r _ (d + 1) h.2.2.2 ha.2.2 (by omega), Fo.yl]
end Go.Proofs.Ytldjbgonlbmeaaa.F
end
section
/- Plain law: how deep a forest is. -/
set_option linter.unusedSimpArgs false
set_option linter.unusedVariables false
namespace Go.Proofs.Ytldjbgonlbmeaaa.F
open Go.Proofs.Ytldjbgonlbmeaaa.T (Fm zFm dk dstep dps dtop depth kd dk_len dk_lens dps_len kd_lt)
def mxd (D : List Int) (m : Int) (ps : List Int) : Int := ps.foldl (fun m t => max m (D.getD t.toNat 0)) m
theorem mxd_max (D : List Int) : ∀ (ps : List Int) (m : Int), 0 ≤ m → mxd D m ps = max m (mxd D 0 ps)
 | [], m, h => by simp only [mxd, List.foldl_nil]; omega
 | p :: ps, m, h => by
  have h1 := mxd_max D ps (max m (D.getD p.toNat 0)) (by omega)
  have h2 := mxd_max D ps (max 0 (D.getD p.toNat 0)) (by omega)
  simp only [mxd, List.foldl_cons] at h1 h2 ⊢
  omega
theorem mxd_congr {D D' : List Int} : ∀ {ps : List Int} (m : Int), (∀ p ∈ ps, D.getD p.toNat 0 = D'.getD p.toNat 0) → mxd D m ps = mxd D' m ps
 | [], m, _ => rfl
 | p :: ps, m, h => by
  have h1 := mxd_congr (D := D) (D' := D') (ps := ps) (max m (D.getD p.toNat 0)) (fun q hq => h q (List.mem_cons_of_mem _ hq))
  have h0 := h p (List.mem_cons_self ..)
  simp only [mxd, List.foldl_cons] at h1 ⊢
  rw [h1, h0]
theorem dk_at (i k : Nat) (D : List Int) (j : Nat) : (dk i D k).getD j 0 = if j = i ∧ i < D.length then max (D.getD i 0) (D.getD k 0) else D.getD j 0 := by
 unfold dk
 simp only [List.getD_eq_getElem?_getD, List.getElem?_set]
 by_cases h : i = j
 ·subst h
  by_cases h2 : i < D.length
  ·simp [h2]
  ·simp [h2, List.getElem?_eq_none (Nat.le_of_not_lt h2)]
 ·rw [if_neg h, if_neg (fun e => h e.1.symm)]
theorem dks_at (i : Nat) : ∀ (ks : List Nat) (D : List Int), i < D.length → (∀ k ∈ ks, i < k) → (ks.foldl (dk i) D).getD i 0 = mxd D (D.getD i 0) (ks.map fun (k : Nat) => (k : Int))
 | [], D, _, _ => rfl
 | k :: ks, D, hi, hk => by
  have hik := hk k (List.mem_cons_self ..)
  have hks := fun q hq => hk q (List.mem_cons_of_mem _ hq)
  rw [List.foldl_cons, dks_at i ks (dk i D k) (by rw [dk_len]; exact hi) hks, dk_at, if_pos ⟨rfl, hi⟩]
  rw [mxd_congr (D := dk i D k) (D' := D)]
  ·simp only [List.map_cons, mxd, List.foldl_cons, Int.toNat_natCast]
  ·intro p hp
   obtain ⟨q, hq, rfl⟩ := List.mem_map.1 hp
   rw [Int.toNat_natCast, dk_at, if_neg]
   have := hks q hq
   omega
theorem dks_else (i : Nat) : ∀ (ks : List Nat) (D : List Int) (j : Nat), j ≠ i → (ks.foldl (dk i) D).getD j 0 = D.getD j 0
 | [], D, j, _ => rfl
 | k :: ks, D, j, hj => by rw [List.foldl_cons, dks_else i ks _ j hj, dk_at, if_neg (fun e => hj e.1)]
theorem set_at (D : List Int) (i j : Nat) (v : Int) : (D.set i v).getD j 0 = if j = i ∧ i < D.length then v else D.getD j 0 := by
 simp only [List.getD_eq_getElem?_getD, List.getElem?_set]
 by_cases h : i = j
 ·subst h
  by_cases h2 : i < D.length
  ·simp [h2]
  ·simp [h2, List.getElem?_eq_none (Nat.le_of_not_lt h2)]
 ·rw [if_neg h, if_neg (fun e => h e.1.symm)]
theorem dstep_else (l : List Fm) (D : List Int) (i j : Nat) (h : j ≠ i) : (dstep l D i).getD j 0 = D.getD j 0 := by
 unfold dstep
 split
 ·rw [set_at, if_neg (fun e => h e.1), dks_else i _ D j h]
 ·rfl
theorem kd_fo {l : List Fm} {i : Nat} {ps : List Int} (hk : (l.getD i zFm).f3 = ps) (h : ∀ p ∈ ps, (i : Int) < p ∧ p < (l.length : Int)) : (kd l i).map (fun (k : Nat) => (k : Int)) = ps := by
 unfold kd
 rw [hk, List.filter_eq_self.2 (fun p hp => by have := h p hp; simpa using this), List.map_map]
 conv => rhs; rw [← List.map_id ps]
 refine List.map_congr_left fun p hp => ?_
 have := h p hp
 simp only [Function.comp, id]
 omega
theorem dps_fo {l : List Fm} : ∀ (j : Nat), j ≤ l.length → (∀ p, p + j < l.length → (dps l j).getD p 0 = 0) ∧ ∀ (F : Fo) (n : Nat), Fl l F n → F.all IsLeaf IsBr → l.length ≤ n + j → n ≤ l.length → mxd (dps l j) 0 (F.pls n) = min (F.dep : Int) 13
 | 0, _ => by
  have h0 : ∀ p, (dps l 0).getD p 0 = 0 := fun p => by
   show (List.replicate l.length (0 : Int)).getD p 0 = 0
   rw [List.getD_eq_getElem?_getD]
   by_cases h : p < l.length
   ·simp [h]
   ·rw [List.getElem?_eq_none (by simp; omega)]; rfl
  refine ⟨fun p _ => h0 p, fun F n h ha hn hnl => ?_⟩
  have hle := h.le hnl
  cases F with
  | nil => rfl
  | lf f r => simp only [Fo.size] at hle; omega
  | br f ks r => simp only [Fo.size] at hle; omega
 | j + 1, hj => by
  obtain ⟨i0, ih⟩ := dps_fo (l := l) j (by omega)
  have hst : dps l (j + 1) = dstep l (dps l j) (l.length - 1 - j) := rfl
  have hlen := dps_len l j
  refine ⟨fun p hp => ?_, fun F n h ha hn hnl => ?_⟩
  ·rw [hst, dstep_else _ _ _ _ (by omega)]
   exact i0 p (by omega)
  ·-- behind the form whose turn it is nothing changes
   have far : ∀ (G : Fo) (m : Nat), Fl l G m → G.all IsLeaf IsBr → l.length ≤ m + j → m ≤ l.length → mxd (dps l (j + 1)) 0 (G.pls m) = min (G.dep : Int) 13 := fun G m hg hga hm hml => by
    rw [hst, mxd_congr (D' := dps l j), ih G m hg hga hm hml]
    intro p hp
    have := G.pls_in m p hp
    exact dstep_else _ _ _ _ (by omega)
   by_cases hnj : l.length ≤ n + j
   ·exact far F n h ha hnj hnl
   ·have hn' : l.length - 1 - j = n := by omega
    rw [hn'] at hst
    have hz := i0 n (by omega)
    cases F with
    | nil => rfl
    | lf f r =>
     have hr := far r (n + 1) h.2.2 ha.2 (by omega) (by omega)
     have hv : (dps l (j + 1)).getD n 0 = 0 := by
      rw [hst]
      unfold dstep
      rw [h.2.1, (ent_f f _).1, if_neg (by have := ha.1; unfold IsLeaf at this; omega)]
      exact hz
     have := mxd_max (dps l (j + 1)) (r.pls (n + 1)) (max 0 0) (by omega)
     simp only [Fo.pls, Fo.dep]
     unfold mxd at this hr ⊢
     rw [List.foldl_cons, Int.toNat_natCast, hv, this, hr]
     omega
    | br f ks r =>
     have hks := h.2.2.1.le h.1
     have hr := far r (n + 1 + ks.size) h.2.2.2 ha.2.2 (by omega) (by omega)
     have hk := ih ks (n + 1) h.2.2.1 ha.2.1 (by omega) (by omega)
     have hv : (dps l (j + 1)).getD n 0 = min ((ks.dep : Int) + 1) 13 := by
      rw [hst]
      unfold dstep
      rw [h.2.1, (ent_f f _).1, if_pos (show f.f0 = 1 from ha.1), set_at, if_pos ⟨rfl, by rw [dk_lens, hlen]; omega⟩]
      rw [dks_at n _ _ (by rw [hlen]; omega) (fun k hk => (kd_lt hk).1), hz, kd_fo (ps := ks.pls (n + 1)) (by rw [h.2.1]; rfl), hk]
      ·omega
      ·intro p hp
       have := ks.pls_in (n + 1) p hp
       omega
     have := mxd_max (dps l (j + 1)) (r.pls (n + 1 + ks.size)) (max 0 (min ((ks.dep : Int) + 1) 13)) (by omega)
     simp only [Fo.pls, Fo.dep]
     unfold mxd at this hr ⊢
     rw [List.foldl_cons, Int.toNat_natCast, hv, this, hr]
     omega
theorem dtop_mxd (n : Nat) (D : List Int) : ∀ (ps : List Int) (m : Int), (∀ p ∈ ps, 0 ≤ p ∧ p < (n : Int)) → ps.foldl (dtop n D) m = mxd D m ps
 | [], m, _ => rfl
 | p :: ps, m, h => by
  have h0 := h p (List.mem_cons_self ..)
  have e : dtop n D m p = max m (D.getD p.toNat 0) := by unfold dtop; rw [if_pos h0]
  rw [List.foldl_cons, dtop_mxd n D ps _ (fun q hq => h q (List.mem_cons_of_mem _ hq)), e]
  rfl
theorem depth_fo {l : List Fm} {F : Fo} (h : Fl l F 0) (ha : F.all IsLeaf IsBr) : depth l (F.pls 0) = min (F.dep : Int) 13 := by
 have hle := h.le (Nat.zero_le _)
 unfold depth
 rw [dtop_mxd]
 ·exact (dps_fo l.length (Nat.le_refl _)).2 F 0 h ha (by omega) (Nat.zero_le _)
 ·intro p hp
  have := F.pls_in 0 p hp
  omega
end Go.Proofs.Ytldjbgonlbmeaaa.F
end
section
/- Plain law: a forest that stands is right; Print and Pretty tell its text. -/
set_option linter.unusedSimpArgs false
set_option linter.unusedVariables false
namespace Go.Proofs.Ytldjbgonlbmeaaa.F
open Go.RowKit Go.Proofs.Ytldjbgonlbmeaaa.PA Go.Proofs.Ytldjbgonlbmeaaa.PB Go.Proofs.Ytldjbgonlbmeaaa.T Go.Proofs.YtldjbgonlbmeaaaW.PrintWords Go.Proofs.YtldjbgonlbmeaaaW.PrintLast
def LeafOk (f : Fm) : Prop := (f.f0 = 3 ∧ f.f2 = 0 ∧ wkd f.f1 = 3 ∧ f.f1.size ≤ 16777216) ∨ (f.f0 = 4 ∧ f.f1 = ⟨#[]⟩ ∧ -9223372036854775808 ≤ f.f2 ∧ f.f2 ≤ 9223372036854775807)
def BrOk (f : Fm) : Prop := f.f0 = 1 ∧ f.f1 = ⟨#[]⟩ ∧ f.f2 = 0
theorem LeafOk.is {f : Fm} (h : LeafOk f) : IsLeaf f := h.imp (fun q => q.1) (fun q => q.1)
theorem BrOk.is {f : Fm} (h : BrOk f) : IsBr f := h.1
theorem Fo.all.imp {P P' Q Q' : Fm → Prop} (hp : ∀ f, P f → P' f) (hq : ∀ f, Q f → Q' f) : ∀ {F : Fo}, F.all P Q → F.all P' Q'
 | .nil, _ => trivial
 | .lf f r, h => ⟨hp f h.1, Fo.all.imp hp hq h.2⟩
 | .br f ks r, h => ⟨hq f h.1, Fo.all.imp hp hq h.2.1, Fo.all.imp hp hq h.2.2⟩
theorem Fo.all.is {F : Fo} (h : F.all LeafOk BrOk) : F.all IsLeaf IsBr := h.imp (fun _ q => q.is) (fun _ q => q.is)
theorem nil_toList : (⟨#[]⟩ : ByteArray).toList = ([] : List UInt8) := by rw [Go.ByteArray.toList_eq]
theorem alone_leaf {f : Fm} (h : LeafOk f) : Ev (fun k => tree_alone.f k f.f0 f.f1 f.f2 [] f.f4) true := by
 rcases h with ⟨h0, h2, h1, hs⟩ | ⟨h0, h1, _⟩
 ·have hw := ev_wk f.f1 (by omega)
  refine Ev.congr (f := fun k => (lex_WordKind.f k f.f1).bind fun t107 => some (t107 == 3)) (fun k => ?_) (Ev.bind (f := fun _ t107 => some (t107 == 3)) hw ?_)
  ·unfold tree_alone.f
   rw [if_neg (by omega), if_pos h0, if_pos h2, if_pos (by rfl)]
  ·rw [h1]
   exact Ev.now _
 ·refine Ev.congr (f := fun k => some true) (fun k => ?_) (Ev.now _)
  unfold tree_alone.f
  rw [if_neg (by omega), if_neg (by omega), if_pos h0, h1, if_pos nil_toList]
  rfl
theorem alone_br {f : Fm} (h : BrOk f) (ks : List Int) : Ev (fun k => tree_alone.f k f.f0 f.f1 f.f2 ks f.f4) true := by
 obtain ⟨h0, h1, h2⟩ := h
 refine Ev.congr (f := fun k => some true) (fun k => ?_) (Ev.now _)
 unfold tree_alone.f
 rw [if_pos h0, h1, if_pos nil_toList, h2]
 rfl
theorem walk_fo {l : List Fm} (hl : l.length ≤ 100000) : ∀ (F : Fo) (n i : Nat) (x : List Int) (post : List Int) (r : Int × Bool), Fl l F n → n ≤ l.length → x.length ≤ 100000 → x.drop i = F.pls n ++ post →
  Ev (fun k => tree_walk.l0 k l ((n + F.size : Nat) : Int) x (x.length : Int) ((i + F.num : Nat) : Int)) r → Ev (fun k => tree_walk.l0 k l (n : Int) x (x.length : Int) (i : Int)) r
 | .nil, n, i, x, post, r, _, _, _, _, h => by simpa [Fo.size, Fo.num] using h
 | .lf f rr, n, i, x, post, r, hf, hn, hx, hd, h => by
  simp only [Fo.pls, List.cons_append] at hd
  have hi : i < x.length := by
   apply Classical.byContradiction
   intro q
   rw [List.drop_of_length_le (by omega)] at hd
   cases hd
  rw [List.drop_eq_getElem_cons hi] at hd
  injection hd with hd1 hd2
  have hrd : rd x (i : Int) = (n : Int) := by
   unfold rd
   rw [Int.toNat_natCast, List.getD_eq_getElem?_getD, List.getElem?_eq_getElem hi, hd1]; rfl
  have hw : wrap64 ((i : Int) + 1) = ((i + 1 : Nat) : Int) := by unfold wrap64; omega
  have hw2 : wrap64 ((n : Int) + 1) = ((n + 1 : Nat) : Int) := by unfold wrap64; omega
  have h1 := hf.1
  have hk : (rd_T33 l (n : Int)).f3 = [] := by
   have : rd_T33 l (n : Int) = l.getD n zFm := by unfold rd_T33; rw [Int.toNat_natCast]
   rw [this, hf.2.1]; rfl
  have next := walk_fo hl rr (n + 1) (i + 1) x post r hf.2.2 (by omega) hx hd2 (by
   simp only [Fo.size, Fo.num] at h
   rw [show n + 1 + rr.size = n + (rr.size + 1) by omega, show i + 1 + rr.num = i + (rr.num + 1) by omega]
   exact h)
  refine Ev.step (f := fun k => tree_walk.j1 k l (n : Int) (n : Int) x (x.length : Int) (i : Int) false) (fun k => ?_) ?_
  ·rw [tree_walk.l0, if_pos (by omega), if_pos (by omega), if_pos (by omega), hrd, if_pos rfl, decide_eq_false (by omega)]
  refine Ev.step (f := fun k => (tree_walk.f k l [] ((n + 1 : Nat) : Int)).bind fun bt193 => (if bt193.2 = true then (tree_walk.l0 k l bt193.1 x (x.length : Int) ((i + 1 : Nat) : Int)) else (some (bt193.1, false)))) (fun k => ?_) ?_
  ·rw [tree_walk.j1, if_neg (by decide), if_pos (by omega), if_pos (by omega), hk, hw, hw2]
  refine Ev.bind (f := fun k bt193 => (if bt193.2 = true then (tree_walk.l0 k l bt193.1 x (x.length : Int) ((i + 1 : Nat) : Int)) else (some (bt193.1, false)))) (a := (((n + 1 : Nat) : Int), true)) ?_ ?_
  ·refine Ev.step (f := fun k => tree_walk.l0 k l ((n + 1 : Nat) : Int) [] 0 0) (fun k => by rw [tree_walk.f]; rfl) ?_
   refine Ev.step (f := fun k => some (((n + 1 : Nat) : Int), true)) (fun k => ?_) (Ev.now _)
   rw [tree_walk.l0, if_neg (by omega)]
  ·exact next
 | .br f ks rr, n, i, x, post, r, hf, hn, hx, hd, h => by
  simp only [Fo.pls, List.cons_append] at hd
  have hi : i < x.length := by
   apply Classical.byContradiction
   intro q
   rw [List.drop_of_length_le (by omega)] at hd
   cases hd
  rw [List.drop_eq_getElem_cons hi] at hd
  injection hd with hd1 hd2
  have hrd : rd x (i : Int) = (n : Int) := by
   unfold rd
   rw [Int.toNat_natCast, List.getD_eq_getElem?_getD, List.getElem?_eq_getElem hi, hd1]; rfl
  have hw : wrap64 ((i : Int) + 1) = ((i + 1 : Nat) : Int) := by unfold wrap64; omega
  have hw2 : wrap64 ((n : Int) + 1) = ((n + 1 : Nat) : Int) := by unfold wrap64; omega
  have h1 := hf.1
  have hks := hf.2.2.1.le h1
  have hk : (rd_T33 l (n : Int)).f3 = ks.pls (n + 1) := by
   have : rd_T33 l (n : Int) = l.getD n zFm := by unfold rd_T33; rw [Int.toNat_natCast]
   rw [this, hf.2.1]; rfl
  have next := walk_fo hl rr (n + 1 + ks.size) (i + 1) x post r hf.2.2.2 hks hx hd2 (by
   simp only [Fo.size, Fo.num] at h
   rw [show n + 1 + ks.size + rr.size = n + (ks.size + rr.size + 1) by omega, show i + 1 + rr.num = i + (rr.num + 1) by omega]
   exact h)
  have hkl : (ks.pls (n + 1)).length = ks.num := ks.pls_len (n + 1)
  have hkn := ks.num_le
  refine Ev.step (f := fun k => tree_walk.j1 k l (n : Int) (n : Int) x (x.length : Int) (i : Int) false) (fun k => ?_) ?_
  ·rw [tree_walk.l0, if_pos (by omega), if_pos (by omega), if_pos (by omega), hrd, if_pos rfl, decide_eq_false (by omega)]
  refine Ev.step (f := fun k => (tree_walk.f k l (ks.pls (n + 1)) ((n + 1 : Nat) : Int)).bind fun bt193 => (if bt193.2 = true then (tree_walk.l0 k l bt193.1 x (x.length : Int) ((i + 1 : Nat) : Int)) else (some (bt193.1, false)))) (fun k => ?_) ?_
  ·rw [tree_walk.j1, if_neg (by decide), if_pos (by omega), if_pos (by omega), hk, hw, hw2]
  refine Ev.bind (f := fun k bt193 => (if bt193.2 = true then (tree_walk.l0 k l bt193.1 x (x.length : Int) ((i + 1 : Nat) : Int)) else (some (bt193.1, false)))) (a := (((n + 1 + ks.size : Nat) : Int), true)) ?_ ?_
  ·refine Ev.step (f := fun k => tree_walk.l0 k l ((n + 1 : Nat) : Int) (ks.pls (n + 1)) ((ks.pls (n + 1)).length : Int) ((0 : Nat) : Int)) (fun k => by rw [tree_walk.f]; rfl) ?_
   refine walk_fo hl ks (n + 1) 0 _ [] _ hf.2.2.1 (by omega) (by omega) (by simp) ?_
   refine Ev.step (f := fun k => some (((n + 1 + ks.size : Nat) : Int), true)) (fun k => ?_) (Ev.now _)
   rw [tree_walk.l0, if_neg (by rw [hkl]; omega)]
  ·exact next
theorem walk_top {l : List Fm} (hl : l.length ≤ 100000) (F : Fo) (hf : Fl l F 0) (hs : F.size ≤ l.length) : Ev (fun k => tree_walk.f k l (F.pls 0) 0) ((F.size : Int), true) := by
 have hkl : (F.pls 0).length = F.num := F.pls_len 0
 have hkn := F.num_le
 refine Ev.step (f := fun k => tree_walk.l0 k l ((0 : Nat) : Int) (F.pls 0) ((F.pls 0).length : Int) ((0 : Nat) : Int)) (fun k => by rw [tree_walk.f]; rfl) ?_
 refine walk_fo hl F 0 0 _ [] _ hf (by omega) (by omega) (by simp) ?_
 refine Ev.step (f := fun k => some ((F.size : Int), true)) (fun k => ?_) (Ev.now _)
 rw [tree_walk.l0, if_neg (by rw [hkl]; omega), Nat.zero_add]
theorem right_fo {l : List Fm} {F : Fo} (hf : Fl l F 0) (hs : l.length = F.size) (ha : F.all LeafOk BrOk) (h4 : F.size ≤ 400) (hd : F.dep ≤ 12) : Ev (fun k => tree_Right.f k l (F.pls 0)) true := by
 have last : Ev (fun k => tree_Right.l0 k l (F.pls 0) l (l.length : Int) (l.length : Int)) true := by
  refine Ev.step (f := fun k => (tree_walk.f k l (F.pls 0) 0).bind fun bt111 => (if bt111.2 = true then (if bt111.1 = (l.length : Int) then ((tree_Depth.f l (F.pls 0)).bind fun t113 => (some (decide (t113 ≤ 12)))) else (some false)) else (some false))) (fun k => ?_) ?_
  ·rw [tree_Right.l0, if_neg (by omega)]
  refine Ev.bind (f := fun k bt111 => (if bt111.2 = true then (if bt111.1 = (l.length : Int) then ((tree_Depth.f l (F.pls 0)).bind fun t113 => (some (decide (t113 ≤ 12)))) else (some false)) else (some false))) (walk_top (by omega) F hf (by omega)) ?_
  refine Ev.congr (f := fun k => some true) (fun k => ?_) (Ev.now _)
  rw [if_pos rfl, if_pos (by rw [hs])]
  unfold tree_Depth.f
  rw [if_pos (by omega), depth_fo hf ha.is]
  show some _ = _
  rw [decide_eq_true (by omega)]
 have loop : ∀ d i, i + d = l.length → Ev (fun k => tree_Right.l0 k l (F.pls 0) l (l.length : Int) (i : Int)) true := by
  intro d
  induction d with
  | zero => intro i hi; rw [show i = l.length by omega]; exact last
  | succ d ih =>
   intro i hi
   have hw : wrap64 ((i : Int) + 1) = ((i + 1 : Nat) : Int) := by unfold wrap64; omega
   have hr : rd_T33 l (i : Int) = l.getD i zFm := by unfold rd_T33; rw [Int.toNat_natCast]
   refine Ev.step (f := fun k => (tree_alone.f k (l.getD i zFm).f0 (l.getD i zFm).f1 (l.getD i zFm).f2 (l.getD i zFm).f3 (l.getD i zFm).f4).bind fun t110 => (if t110 = true then (tree_Right.l0 k l (F.pls 0) l (l.length : Int) ((i + 1 : Nat) : Int)) else (some false))) (fun k => ?_) ?_
   ·rw [tree_Right.l0, if_pos (by omega), if_pos (by omega), if_pos (by omega), hr, hw]
   refine Ev.bind (f := fun k t110 => (if t110 = true then (tree_Right.l0 k l (F.pls 0) l (l.length : Int) ((i + 1 : Nat) : Int)) else (some false))) (a := true) ?_ (ih (i + 1) (by omega))
   rcases hf.at ha i (Nat.zero_le _) (by omega) with ⟨f, hP, e⟩ | ⟨f, ks, hQ, e, _⟩
   ·rw [e]; exact alone_leaf hP
   ·rw [e]; exact alone_br hQ _
 refine Ev.congr (f := fun k => tree_Right.l0 k l (F.pls 0) l (l.length : Int) ((0 : Nat) : Int)) (fun k => ?_) (loop l.length 0 (by omega))
 unfold tree_Right.f
 rw [if_neg (by omega)]
 rfl
end Go.Proofs.Ytldjbgonlbmeaaa.F
end
section
/- Plain law: a forest's text: its signs, its lines; Print and Pretty tell it. -/
set_option linter.unusedSimpArgs false
set_option linter.unusedVariables false
namespace Go.Proofs.Ytldjbgonlbmeaaa.F
open Go.RowKit Go.Proofs.Ytldjbgonlbmeaaa.PA Go.Proofs.Ytldjbgonlbmeaaa.PB Go.Proofs.Ytldjbgonlbmeaaa.T Go.Proofs.Ytldjbgonlbmeaaa.Nm Go.Proofs.Ytldjbgonlbmeaaa.Dig Go.Proofs.YtldjbgonlbmeaaaW.PrintWords Go.Proofs.YtldjbgonlbmeaaaW.PrintLast
def wb (c : UInt8) : Bool := !(c == 32 || c == 9 || c == 10 || c == 40 || c == 41 || c == 59)
theorem wb_of {c : UInt8} (h : c.toNat ≠ 32 ∧ c.toNat ≠ 9 ∧ c.toNat ≠ 10 ∧ c.toNat ≠ 40 ∧ c.toNat ≠ 41 ∧ c.toNat ≠ 59) : wb c = true := by
 obtain ⟨h1, h2, h3, h4, h5, h6⟩ := h
 have q : ∀ d : UInt8, c.toNat ≠ d.toNat → (c == d) = false := fun d hd => beq_eq_false_iff_ne.2 fun e => hd (by rw [e])
 unfold wb
 rw [q 32 h1, q 9 h2, q 10 h3, q 40 h4, q 41 h5, q 59 h6]
 rfl
theorem wb_dig {c : UInt8} (h : isd c = true) : wb c = true := by
 unfold isd at h
 simp only [Bool.and_eq_true, decide_eq_true_eq] at h
 exact wb_of (by omega)
theorem text_wb (v : Int) : ∀ c ∈ text v, wb c = true := by
 intro c hc
 by_cases h : v < 0
 ·rw [text_neg h] at hc
  rcases List.mem_cons.1 hc with e | e
  ·rw [e]; decide
  ·exact wb_dig ((dec_val _).2 c e)
 ·rw [text_nat h] at hc
  exact wb_dig ((dec_val _).2 c hc)
theorem name_wb {s : ByteArray} (h : nmok s = true) : s.data.toList ≠ [] ∧ s.data.toList.length ≤ 8 ∧ ∀ c ∈ s.data.toList, wb c = true := by
 unfold nmok at h
 simp only [Bool.and_eq_true, decide_eq_true_eq] at h
 obtain ⟨⟨h1, h2⟩, h3⟩ := h
 have hl : s.data.toList.length = s.size := by simp
 refine ⟨fun e => by rw [e] at hl; simp at hl; omega, by omega, fun c hc => ?_⟩
 obtain ⟨i, hi, rfl⟩ := List.mem_iff_getElem.1 hc
 unfold good at h3
 have := List.all_eq_true.1 h3 i (List.mem_range.2 (by omega))
 have hb : byte s i = (s.data.toList[i]).toNat := by
  unfold byte
  rw [dif_pos (by omega)]
  rfl
 rw [hb] at this
 unfold Nm.gd at this
 simp only [Bool.or_eq_true, decide_eq_true_eq] at this
 exact wb_of (by omega)
theorem sign_wb : ∀ s ∈ signs, s ≠ [] ∧ s.length ≤ 8 ∧ ∀ c ∈ s, wb c = true := by decide
theorem wkd_name {x : ByteArray} (h : wkd x = 3) : x.data.toList ≠ [] ∧ x.data.toList.length ≤ 8 ∧ ∀ c ∈ x.data.toList, wb c = true := by
 unfold wkd at h
 split at h
 ·exact absurd h (by decide)
 ·split at h
  ·rename_i _ hs
   have := sign_wb _ hs
   rwa [Go.ByteArray.toList_eq] at this
  ·split at h
   ·rename_i hn
    exact name_wb hn
   ·exact absurd h (by decide)
theorem leaf_wb {f : Fm} (h : LeafOk f) : leafT f ≠ [] ∧ (leafT f).length ≤ 20 ∧ ∀ c ∈ leafT f, wb c = true := by
 unfold leafT
 rcases h with ⟨h0, h2, h1, hs⟩ | ⟨h0, h1, h2, h3⟩
 ·rw [if_neg (by omega)]
  have := wkd_name h1
  exact ⟨this.1, by omega, this.2.2⟩
 ·rw [if_pos h0]
  exact ⟨text_ne _, Dig.text_len ⟨h2, h3⟩, text_wb _⟩
theorem wb_cnt {x : List UInt8} (h : ∀ c ∈ x, wb c = true) : x.count 10 = 0 := List.count_eq_zero.2 fun hm => by
 have := h 10 hm
 exact absurd this (by decide)
theorem tx_cnt : ∀ (F : Fo) (first : Bool), F.all LeafOk BrOk → (F.tx first).count 10 = 0 ∧ (F.tx first).length ≤ F.size * 24
 | .nil, _, _ => ⟨rfl, Nat.zero_le _⟩
 | .lf f r, first, h => by
  obtain ⟨a, b⟩ := tx_cnt r false h.2
  obtain ⟨_, c, d⟩ := leaf_wb h.1
  simp only [Fo.tx, Fo.size, List.count_append, List.length_append, wb_cnt d, a]
  refine ⟨by cases first <;> rfl, ?_⟩
  have : (if first = true then ([] : List UInt8) else [32]).length ≤ 1 := by cases first <;> simp
  omega
 | .br f ks r, first, h => by
  obtain ⟨a, b⟩ := tx_cnt r false h.2.2
  obtain ⟨a', b'⟩ := tx_cnt ks true h.2.1
  simp only [Fo.tx, Fo.size, List.count_append, List.length_append, a, a', List.length_cons, List.length_nil]
  refine ⟨by cases first <;> rfl, ?_⟩
  have : (if first = true then ([] : List UInt8) else [32]).length ≤ 1 := by cases first <;> simp
  omega
theorem pl_cnt : ∀ (F : Fo), F.all LeafOk BrOk → F.pl.count 10 = F.num ∧ F.pl.length ≤ F.size * 24
 | .nil, _ => ⟨rfl, Nat.zero_le _⟩
 | .lf f r, h => by
  obtain ⟨a, b⟩ := pl_cnt r h.2
  obtain ⟨_, c, d⟩ := leaf_wb h.1
  simp only [Fo.pl, Fo.size, Fo.num, List.count_append, List.length_append, wb_cnt d, a, List.length_cons, List.length_nil]
  refine ⟨by rw [show List.count (10 : UInt8) [10] = 1 from rfl]; omega, by omega⟩
 | .br f ks r, h => by
  obtain ⟨a, b⟩ := pl_cnt r h.2.2
  obtain ⟨a', b'⟩ := tx_cnt ks true h.2.1
  simp only [Fo.pl, Fo.size, Fo.num, List.count_append, List.length_append, a, a', List.length_cons, List.length_nil]
  refine ⟨by rw [show List.count (10 : UInt8) [10] = 1 from rfl, show List.count (10 : UInt8) [40] = 0 from rfl, show List.count (10 : UInt8) [41] = 0 from rfl]; omega, by omega⟩
theorem line_cnt (deep : Nat) : (lineL deep).count 10 = 1 := by
 unfold lineL
 have : ∀ n, (Lib.repeatL [32, 32] n).count 10 = 0 := fun n => by
  induction n with
  | zero => rfl
  | succ n ih => rw [Lib.repeatL, List.count_append, ih]; rfl
 rw [List.count_cons, this]
 rfl
theorem py_cnt : ∀ (F : Fo) (deep : Nat) (first seen : Bool), F.all LeafOk BrOk → (F.py deep first seen).count 10 ≤ F.size ∧ (deep + F.size ≤ 410 → (F.py deep first seen).length ≤ F.size * 1000)
 | .nil, _, _, _, _ => ⟨Nat.zero_le _, fun _ => Nat.zero_le _⟩
 | .lf f r, deep, first, seen, h => by
  obtain ⟨a, b⟩ := py_cnt r deep false seen h.2
  obtain ⟨_, c, d⟩ := leaf_wb h.1
  simp only [Fo.py, Fo.size, List.count_append, List.length_append, wb_cnt d]
  have q : (if seen = true then lineL deep else if first = true then ([] : List UInt8) else [32]).count 10 ≤ 1 := by
   split
   ·rw [line_cnt]; omega
   ·split <;> decide
  have q2 : (if seen = true then lineL deep else if first = true then ([] : List UInt8) else [32]).length ≤ 1 + 2 * deep := by
   split
   ·rw [lineL_len]; omega
   ·split <;> simp
  exact ⟨by omega, fun hd => by have := b (by omega); omega⟩
 | .br f ks r, deep, first, seen, h => by
  obtain ⟨a, b⟩ := py_cnt r deep false true h.2.2
  obtain ⟨a', b'⟩ := py_cnt ks (deep + 1) true false h.2.1
  simp only [Fo.py, Fo.size, List.count_append, List.length_append, line_cnt, lineL_len, List.length_cons, List.length_nil]
  rw [show List.count (10 : UInt8) [40] = 0 from rfl, show List.count (10 : UInt8) [41] = 0 from rfl]
  exact ⟨by omega, fun hd => by have := b (by omega); have := b' (by omega); omega⟩
theorem yl_cnt : ∀ (F : Fo), F.all LeafOk BrOk → F.num ≤ F.yl.count 10 ∧ F.yl.count 10 ≤ F.size ∧ (F.size ≤ 400 → F.yl.length ≤ F.size * 1000)
 | .nil, _ => ⟨Nat.zero_le _, Nat.zero_le _, fun _ => Nat.zero_le _⟩
 | .lf f r, h => by
  obtain ⟨a, b, e⟩ := yl_cnt r h.2
  obtain ⟨_, c, d⟩ := leaf_wb h.1
  simp only [Fo.yl, Fo.size, Fo.num, List.count_append, List.length_append, wb_cnt d, List.length_cons, List.length_nil]
  rw [show List.count (10 : UInt8) [10] = 1 from rfl]
  exact ⟨by omega, by omega, fun hd => by have := e (by omega); omega⟩
 | .br f ks r, h => by
  obtain ⟨a, b, e⟩ := yl_cnt r h.2.2
  obtain ⟨a', b'⟩ := py_cnt ks 1 true false h.2.1
  simp only [Fo.yl, Fo.size, Fo.num, List.count_append, List.length_append, List.length_cons, List.length_nil]
  rw [show List.count (10 : UInt8) [10] = 1 from rfl, show List.count (10 : UInt8) [40] = 0 from rfl, show List.count (10 : UInt8) [41] = 0 from rfl]
  exact ⟨by omega, by omega, fun hd => by have := e (by omega); have := b' (by omega); omega⟩
theorem okl_fo {l : List Fm} {F : Fo} (hf : Fl l F 0) (hs : l.length = F.size) (ha : F.all LeafOk BrOk) : Okl l = true := by
 unfold Okl
 rw [List.all_eq_true]
 intro g hg
 obtain ⟨i, hi, rfl⟩ := List.mem_iff_getElem.1 hg
 have e : l.getD i zFm = l[i] := by rw [List.getD_eq_getElem?_getD, List.getElem?_eq_getElem hi]; rfl
 rw [← e]
 simp only [Bool.and_eq_true, decide_eq_true_eq]
 rcases hf.at ha i (Nat.zero_le _) (by omega) with ⟨f, hP, q⟩ | ⟨f, ks, ⟨h0, h1, h2⟩, q, _⟩
 ·rw [q]
  rcases hP with ⟨h0, h2, h1, hs⟩ | ⟨h0, h1, h2, h3⟩
  ·exact ⟨⟨hs, by show -9223372036854775808 ≤ f.f2; omega⟩, by show f.f2 ≤ 9223372036854775807; omega⟩
  ·exact ⟨⟨by show f.f1.size ≤ _; rw [h1]; exact Nat.zero_le _, h2⟩, h3⟩
 ·rw [q]
  exact ⟨⟨by show f.f1.size ≤ _; rw [h1]; exact Nat.zero_le _, by show -9223372036854775808 ≤ f.f2; omega⟩, by show f.f2 ≤ 9223372036854775807; omega⟩
theorem kin_fo {l : List Fm} {F : Fo} (hf : Fl l F 0) (hs : l.length = F.size) (ha : F.all IsLeaf IsBr) : Kin l := fun i hi k hk => by
 rcases hf.at ha i (Nat.zero_le _) (by omega) with ⟨f, hP, q⟩ | ⟨f, ks, hQ, q, hk2, hle, _⟩
 ·rw [q] at hk; cases hk
 ·rw [q] at hk
  have := ks.pls_in (i + 1) k hk
  omega
theorem tin_fo {l : List Fm} {F : Fo} (hs : l.length = F.size) : Tin l (F.pls 0) := fun t ht => by
 have := F.pls_in 0 t ht
 omega
structure Std (l : List Fm) (F : Fo) : Prop where
 fl : Fl l F 0
 len : l.length = F.size
 ok : F.all LeafOk BrOk
 small : F.size ≤ 400
 deep : F.dep ≤ 12
theorem Std.PL {l : List Fm} {F : Fo} (h : Std l F) : T.PL l (F.pls 0) = F.pl := pl_fo (by rw [h.len]; exact h.small) F 0 h.fl h.ok.is
theorem Std.YL {l : List Fm} {F : Fo} (h : Std l F) : T.YL l (F.pls 0) = F.yl := yl_fo (by rw [h.len]; exact h.small) F 0 l.length h.fl h.ok.is (by rw [h.len]; omega)
theorem Std.print {l : List Fm} {F : Fo} (h : Std l F) : Ev (fun k => show_Print.f k l (F.pls 0)) (⟨F.pl.toArray⟩, 0) := by
 refine Ev.bind (f := fun _ b => if b = true then (if Okl l = true ∧ (T.PL l (F.pls 0)).length ≤ 70368744177664 then some ((⟨(T.PL l (F.pls 0)).toArray⟩ : ByteArray), (0 : Int)) else none) else some (⟨#[]⟩, 3)) (right_fo h.fl h.len h.ok h.small h.deep) ?_
 have := (pl_cnt F h.ok).2
 have := h.small
 rw [if_pos rfl, if_pos ⟨okl_fo h.fl h.len h.ok, by rw [h.PL]; omega⟩, h.PL]
 exact Ev.now _
theorem Std.pretty {l : List Fm} {F : Fo} (h : Std l F) : Ev (fun k => show_Pretty.f k l (F.pls 0)) (⟨F.yl.toArray⟩, 0) := by
 refine Ev.bind (f := fun _ b => if b = true then (if PrettyOk l (F.pls 0) then some ((⟨(T.YL l (F.pls 0)).toArray⟩ : ByteArray), (0 : Int)) else none) else some (⟨#[]⟩, 3)) (right_fo h.fl h.len h.ok h.small h.deep) ?_
 have hs := h.small
 have := (yl_cnt F h.ok).2.2 hs
 rw [if_pos rfl, if_pos ⟨okl_fo h.fl h.len h.ok, kin_fo h.fl h.len h.ok.is, tin_fo h.len, by rw [h.len]; exact hs, by rw [h.YL]; omega⟩, h.YL]
 exact Ev.now _
end Go.Proofs.Ytldjbgonlbmeaaa.F
end
section
/- Plain law: what is read of a text: nothing, or a forest. -/
set_option linter.unusedSimpArgs false
set_option linter.unusedVariables false
namespace Go.Proofs.Ytldjbgonlbmeaaa.F
open Go.RowKit Go.Proofs.Ytldjbgonlbmeaaa.PA Go.Proofs.Ytldjbgonlbmeaaa.PB Go.Proofs.Ytldjbgonlbmeaaa.T Go.Proofs.Ytldjbgonlbmeaaa.Dig Go.Proofs.YtldjbgonlbmeaaaW.PrintWords Go.Proofs.YtldjbgonlbmeaaaW.PrintLast
theorem leaf_tok {t : Tk} (h : TokOk t) (hk : t.f0 = 3 ∨ t.f0 = 4) : LeafOk (fm t) := by
 rcases h with h | h | ⟨h, hw, hs⟩ | ⟨h, hv⟩
 ·omega
 ·omega
 ·refine Or.inl ⟨h, ?_, ?_, ?_⟩
  ·show (if t.f0 = 4 then t.f2 else 0) = 0
   rw [if_neg (by omega)]
  ·show wkd (if t.f0 = 3 then t.f1 else ⟨#[]⟩) = 3
   rw [if_pos h, hw]
  ·show (if t.f0 = 3 then t.f1 else ⟨#[]⟩).size ≤ _
   rw [if_pos h]; omega
 ·have e : (fm t).f2 = t.f2 := by show (if t.f0 = 4 then t.f2 else 0) = _; rw [if_pos h]
  refine Or.inr ⟨h, ?_, ?_, ?_⟩
  ·show (if t.f0 = 3 then t.f1 else ⟨#[]⟩) = _
   rw [if_neg (by omega)]
  ·rw [e]; exact hv.1
  ·rw [e]; exact hv.2
theorem br_tok {t : Tk} (h : t.f0 = 1) : BrOk (fm t) := by
 refine ⟨h, ?_, ?_⟩
 ·show (if t.f0 = 3 then t.f1 else ⟨#[]⟩) = _
  rw [if_neg (by omega)]
 ·show (if t.f0 = 4 then t.f2 else 0) = 0
  rw [if_neg (by omega)]
theorem tks_ok : ∀ (F : Fo) (ts rest : List Tk), Tks F ts rest → (∀ t ∈ ts, TokOk t) → F.all LeafOk BrOk ∧ ∀ t ∈ rest, TokOk t
 | .nil, ts, rest, h, ht => ⟨trivial, by rw [← show ts = rest from h]; exact ht⟩
 | .lf f r, ts, rest, ⟨t, ts', e, hk, hf, hr⟩, ht => by
  subst e; subst hf
  obtain ⟨a, b⟩ := tks_ok r ts' rest hr (fun u hu => ht u (List.mem_cons_of_mem _ hu))
  exact ⟨⟨leaf_tok (ht t (List.mem_cons_self ..)) hk, a⟩, b⟩
 | .br f ks r, ts, rest, ⟨t, ts', c, ts'', e, h1, hf, h2, hk, hr⟩, ht => by
  subst e; subst hf
  obtain ⟨a, b⟩ := tks_ok ks ts' (c :: ts'') hk (fun u hu => ht u (List.mem_cons_of_mem _ hu))
  obtain ⟨a', b'⟩ := tks_ok r ts'' rest hr (fun u hu => b u (List.mem_cons_of_mem _ hu))
  exact ⟨⟨br_tok h1, a, a'⟩, b'⟩
def Fo.tkn : Fo → Nat
 | .nil => 0
 | .lf _ r => r.tkn + 1
 | .br _ ks r => ks.tkn + r.tkn + 2
theorem tks_len : ∀ (F : Fo) (ts rest : List Tk), Tks F ts rest → ts.length = F.tkn + rest.length
 | .nil, ts, rest, h => by rw [show ts = rest from h]; simp [Fo.tkn]
 | .lf f r, ts, rest, ⟨t, ts', e, hk, hf, hr⟩ => by
  have := tks_len r ts' rest hr
  subst e; simp only [List.length_cons, Fo.tkn]; omega
 | .br f ks r, ts, rest, ⟨t, ts', c, ts'', e, h1, hf, h2, hk, hr⟩ => by
  have h1 := tks_len ks ts' (c :: ts'') hk
  have := tks_len r ts'' rest hr
  subst e; simp only [List.length_cons, Fo.tkn] at h1 ⊢; omega
theorem read_any (x : ByteArray) : (∃ l top, Ev (fun k => reticulelaw08_read.f k x) (l, top, false)) ∨ (∃ l F, Ev (fun k => reticulelaw08_read.f k x) (l, F.pls 0, true) ∧ Std l F ∧ F.tkn ≤ 600) := by
 obtain ⟨r, h1, h2⟩ := toks_any x
 by_cases h0 : r.2.2 = 0
 ·obtain ⟨hok, hl⟩ := h2 h0
  have hp := parse_f r.1 (by omega)
  have hr : Ev (fun k => reticulelaw08_read.f k x) ((pspec r.1 [] [] []).1, (pspec r.1 [] [] []).2.1, ((pspec r.1 [] [] []).2.2.2 == 0)) := by
   refine Ev.bind (f := fun k bt178 => (if bt178.2.2 = 0 then ((reticuleref07_Parse.f k bt178.1).bind fun bt183 => (some (bt183.1, bt183.2.1, (bt183.2.2.2 == 0)))) else (some (([] : List Fm), ([] : List Int), false)))) h1 ?_
   refine Ev.congr (f := fun k => (reticuleref07_Parse.f k r.1).bind fun bt183 => (some (bt183.1, bt183.2.1, (bt183.2.2.2 == 0)))) (fun k => by rw [if_pos h0]) ?_
   exact Ev.bind (f := fun _ bt183 => (some (bt183.1, bt183.2.1, (bt183.2.2.2 == 0)))) hp (Ev.now _)
  by_cases hc : (pspec r.1 [] [] []).2.2.2 = 0
  ·have hk : ∀ t ∈ r.1, t.f0 = 1 ∨ t.f0 = 2 ∨ t.f0 = 3 ∨ t.f0 = 4 := fun t ht => by
    rcases hok t ht with q | q | q | q
    ·exact Or.inl q
    ·exact Or.inr (Or.inl q)
    ·exact Or.inr (Or.inr (Or.inl q.1))
    ·exact Or.inr (Or.inr (Or.inr q.1))
   obtain ⟨F, l, a1, a2, a3, a4, a5, a6⟩ := parse_some r.1 hk hc
   rw [a2] at hr
   exact Or.inr ⟨l, F, hr, ⟨a6, a3, (tks_ok F r.1 [] a1 hok).1, a4, a5⟩, by have := tks_len F _ _ a1; simp only [List.length_nil] at this; omega⟩
  ·have : ((pspec r.1 [] [] []).2.2.2 == 0) = false := by simpa using hc
   rw [this] at hr
   exact Or.inl ⟨_, _, hr⟩
 ·refine Or.inl ⟨[], [], ?_⟩
  refine Ev.bind (f := fun k bt178 => (if bt178.2.2 = 0 then ((reticuleref07_Parse.f k bt178.1).bind fun bt183 => (some (bt183.1, bt183.2.1, (bt183.2.2.2 == 0)))) else (some (([] : List Fm), ([] : List Int), false)))) h1 ?_
  refine Ev.congr (f := fun k => some ([], [], false)) (fun k => by rw [if_neg h0]) (Ev.now _)
end Go.Proofs.Ytldjbgonlbmeaaa.F
end
section
/- Plain law: the tokens of a forest's text are the forest's. -/
set_option linter.unusedSimpArgs false
set_option linter.unusedVariables false
namespace Go.Proofs.Ytldjbgonlbmeaaa.F
open Go.RowKit Go.Proofs.Ytldjbgonlbmeaaa.PA Go.Proofs.Ytldjbgonlbmeaaa.PB Go.Proofs.Ytldjbgonlbmeaaa.T Go.Proofs.Ytldjbgonlbmeaaa.Dig Go.Proofs.YtldjbgonlbmeaaaW.PrintWords Go.Proofs.YtldjbgonlbmeaaaW.PrintLast
def Hd (f g : Fm) : Prop := f.f0 = g.f0 ∧ f.f1 = g.f1 ∧ f.f2 = g.f2
def Sim : Fo → Fo → Prop
 | .nil, .nil => True
 | .lf f r, .lf g s => Hd f g ∧ Sim r s
 | .br f ks r, .br g js s => Hd f g ∧ Sim ks js ∧ Sim r s
 | _, _ => False
theorem Hd.leaf {f g : Fm} (h : Hd f g) : leafT f = leafT g := by unfold leafT; rw [h.1, h.2.1, h.2.2]
theorem Hd.lok {f g : Fm} (h : Hd f g) (k : LeafOk f) : LeafOk g := by unfold LeafOk at k ⊢; rw [← h.1, ← h.2.1, ← h.2.2]; exact k
theorem Hd.bok {f g : Fm} (h : Hd f g) (k : BrOk f) : BrOk g := by unfold BrOk at k ⊢; rw [← h.1, ← h.2.1, ← h.2.2]; exact k
theorem Sim.all : ∀ {F G : Fo}, Sim F G → F.all LeafOk BrOk → G.all LeafOk BrOk
 | .nil, .nil, _, _ => trivial
 | .lf f r, .lf g s, h, k => ⟨h.1.lok k.1, Sim.all h.2 k.2⟩
 | .br f ks r, .br g js s, h, k => ⟨h.1.bok k.1, Sim.all h.2.1 k.2.1, Sim.all h.2.2 k.2.2⟩
theorem Sim.dims : ∀ {F G : Fo}, Sim F G → F.size = G.size ∧ F.dep = G.dep ∧ F.num = G.num ∧ F.tkn = G.tkn
 | .nil, .nil, _ => ⟨rfl, rfl, rfl, rfl⟩
 | .lf f r, .lf g s, h => by
  obtain ⟨a, b, c, d⟩ := Sim.dims h.2
  simp only [Fo.size, Fo.dep, Fo.num, Fo.tkn, a, b, c, d]
  exact ⟨trivial, trivial, trivial, trivial⟩
 | .br f ks r, .br g js s, h => by
  obtain ⟨a, b, c, d⟩ := Sim.dims h.2.2
  obtain ⟨a', b', c', d'⟩ := Sim.dims h.2.1
  simp only [Fo.size, Fo.dep, Fo.num, Fo.tkn, a, b, c, d, a', b', c', d']
  exact ⟨trivial, trivial, trivial, trivial⟩
theorem Sim.pls : ∀ {F G : Fo}, Sim F G → ∀ n, F.pls n = G.pls n
 | .nil, .nil, _, _ => rfl
 | .lf f r, .lf g s, h, n => by simp only [Fo.pls, Sim.pls h.2]
 | .br f ks r, .br g js s, h, n => by simp only [Fo.pls, Sim.pls h.2.2, (Sim.dims h.2.1).1]
theorem Sim.tx : ∀ {F G : Fo}, Sim F G → ∀ b, F.tx b = G.tx b
 | .nil, .nil, _, _ => rfl
 | .lf f r, .lf g s, h, b => by simp only [Fo.tx, Sim.tx h.2, h.1.leaf]
 | .br f ks r, .br g js s, h, b => by simp only [Fo.tx, Sim.tx h.2.2, Sim.tx h.2.1]
theorem Sim.pl : ∀ {F G : Fo}, Sim F G → F.pl = G.pl
 | .nil, .nil, _ => rfl
 | .lf f r, .lf g s, h => by simp only [Fo.pl, Sim.pl h.2, h.1.leaf]
 | .br f ks r, .br g js s, h => by simp only [Fo.pl, Sim.pl h.2.2, Sim.tx h.2.1]
theorem Sim.at {l m : List Fm} : ∀ {F G : Fo} {n : Nat}, Sim F G → Fl l F n → Fl m G n → ∀ i, n ≤ i → i < n + F.size → Hd (l.getD i zFm) (m.getD i zFm) ∧ (l.getD i zFm).f3 = (m.getD i zFm).f3
 | .nil, .nil, n, _, _, _, i, h1, h2 => by simp only [Fo.size] at h2; omega
 | .lf f r, .lf g s, n, h, a, b, i, h1, h2 => by
  simp only [Fo.size] at h2
  by_cases e : i = n
  ·subst e; rw [a.2.1, b.2.1]; exact ⟨h.1, rfl⟩
  ·exact Sim.at h.2 a.2.2 b.2.2 i (by omega) (by omega)
 | .br f ks r, .br g js s, n, h, a, b, i, h1, h2 => by
  simp only [Fo.size] at h2
  have hz := (Sim.dims h.2.1).1
  by_cases e : i = n
  ·subst e; rw [a.2.1, b.2.1]; exact ⟨h.1, Sim.pls h.2.1 _⟩
  ·by_cases hk : i < n + 1 + ks.size
   ·exact Sim.at h.2.1 a.2.2.1 b.2.2.1 i (by omega) (by omega)
   ·refine Sim.at h.2.2 a.2.2.2 (by rw [hz]; exact b.2.2.2) i (by omega) (by omega)
inductive Lays : Fo → List UInt8 → Prop
 | nil (S : List UInt8) : (∀ c ∈ S, spc (c.toNat : Int)) → Lays .nil S
 | lf (S T : List UInt8) (f : Fm) (r : Fo) : (∀ c ∈ S, spc (c.toNat : Int)) → LeafOk f → Lays r T → (∀ c T', T = c :: T' → edge (c.toNat : Int)) → Lays (.lf f r) (S ++ leafT f ++ T)
 | br (S K T : List UInt8) (f : Fm) (ks r : Fo) : (∀ c ∈ S, spc (c.toNat : Int)) → BrOk f → Lays ks K → Lays r T → Lays (.br f ks r) (S ++ [40] ++ K ++ [41] ++ T)
theorem Lays.pre {F : Fo} {L : List UInt8} (h : Lays F L) {S : List UInt8} (hS : ∀ c ∈ S, spc (c.toNat : Int)) : Lays F (S ++ L) := by
 cases h with
 | nil S' h' => exact .nil _ fun c hc => (List.mem_append.1 hc).elim (hS c) (h' c)
 | lf S' T f r h' hf hr ht =>
  have := Lays.lf (S ++ S') T f r (fun c hc => (List.mem_append.1 hc).elim (hS c) (h' c)) hf hr ht
  simpa using this
 | br S' K T f ks r h' hf hk hr =>
  have := Lays.br (S ++ S') K T f ks r (fun c hc => (List.mem_append.1 hc).elim (hS c) (h' c)) hf hk hr
  simpa using this
theorem spc1 {d : UInt8} (h : spc (d.toNat : Int)) : ∀ c ∈ [d], spc (c.toNat : Int) := fun c hc => by rw [List.mem_singleton.1 hc]; exact h
theorem spc0 : ∀ c ∈ ([] : List UInt8), spc (c.toNat : Int) := fun c hc => by cases hc
theorem tx_head (F : Fo) : ∀ c T', F.tx false = c :: T' → edge (c.toNat : Int) := by
 cases F with
 | nil => intro c T' h; cases h
 | lf f r => intro c T' h; simp only [Fo.tx] at h; injection h with h _; rw [← h]; decide
 | br f ks r => intro c T' h; simp only [Fo.tx] at h; injection h with h _; rw [← h]; decide
theorem lays_tx : ∀ (F : Fo) (b : Bool), F.all LeafOk BrOk → Lays F (F.tx b)
 | .nil, b, _ => .nil [] spc0
 | .lf f r, b, h => .lf _ _ f r (by cases b <;> first | exact spc0 | exact spc1 (by decide)) h.1 (lays_tx r false h.2) (tx_head r)
 | .br f ks r, b, h => .br _ _ _ f ks r (by cases b <;> first | exact spc0 | exact spc1 (by decide)) h.1 (lays_tx ks true h.2.1) (lays_tx r false h.2.2)
theorem lays_pl : ∀ (F : Fo), F.all LeafOk BrOk → Lays F F.pl
 | .nil, _ => .nil [] spc0
 | .lf f r, h => by
  have := Lays.lf [] ([10] ++ r.pl) f r spc0 h.1 ((lays_pl r h.2).pre (spc1 (by decide))) (fun c T' e => by injection e with e _; rw [← e]; decide)
  simpa [Fo.pl] using this
 | .br f ks r, h => by
  have := Lays.br [] (ks.tx true) ([10] ++ r.pl) f ks r spc0 h.1 (lays_tx ks true h.2.1) ((lays_pl r h.2.2).pre (spc1 (by decide)))
  simpa [Fo.pl] using this
theorem line_spc (d : Nat) : ∀ c ∈ lineL d, spc (c.toNat : Int) := by
 have : ∀ n, ∀ c ∈ Lib.repeatL [32, 32] n, spc (c.toNat : Int) := fun n => by
  induction n with
  | zero => intro c hc; cases hc
  | succ n ih =>
   intro c hc
   rw [Lib.repeatL] at hc
   rcases List.mem_append.1 hc with q | q
   ·simp only [List.mem_cons, List.not_mem_nil, or_false, or_self] at q
    rw [q]; decide
   ·exact ih c q
 intro c hc
 unfold lineL at hc
 rcases List.mem_cons.1 hc with q | q
 ·rw [q]; decide
 ·exact this d c q
theorem py_head (F : Fo) (d : Nat) (seen : Bool) : ∀ c T', F.py d false seen = c :: T' → edge (c.toNat : Int) := by
 have hl : ∀ (A : List UInt8) c T', lineL d ++ A = c :: T' → edge (c.toNat : Int) := fun A c T' e => Or.inl (line_spc d c (by unfold lineL at e ⊢; injection e with e _; rw [e]; exact List.mem_cons_self ..))
 cases F with
 | nil => intro c T' h; cases h
 | lf f r =>
  intro c T' h
  simp only [Fo.py, List.append_assoc] at h
  cases seen with
  | true => exact hl _ c T' h
  | false => injection h with h _; rw [← h]; decide
 | br f ks r => intro c T' h; simp only [Fo.py, List.append_assoc] at h; exact hl _ c T' h
theorem lays_py : ∀ (F : Fo) (d : Nat) (a b : Bool), F.all LeafOk BrOk → Lays F (F.py d a b)
 | .nil, d, a, b, _ => .nil [] spc0
 | .lf f r, d, a, b, h => .lf _ _ f r (by cases b <;> cases a <;> first | exact spc0 | exact line_spc d | exact spc1 (by decide)) h.1 (lays_py r d false b h.2) (py_head r d b)
 | .br f ks r, d, a, b, h => by
  have := Lays.br _ _ _ f ks r (line_spc d) h.1 (lays_py ks (d + 1) true false h.2.1) (lays_py r d false true h.2.2)
  simpa [Fo.py] using this
theorem lays_yl : ∀ (F : Fo), F.all LeafOk BrOk → Lays F F.yl
 | .nil, _ => .nil [] spc0
 | .lf f r, h => by
  have := Lays.lf [] ([10] ++ r.yl) f r spc0 h.1 ((lays_yl r h.2).pre (spc1 (by decide))) (fun c T' e => by injection e with e _; rw [← e]; decide)
  simpa [Fo.yl] using this
 | .br f ks r, h => by
  have := Lays.br [] (ks.py 1 true false) ([10] ++ r.yl) f ks r spc0 h.1 (lays_py ks 1 true false h.2.1) ((lays_yl r h.2.2).pre (spc1 (by decide)))
  simpa [Fo.yl] using this
def Run (x : ByteArray) (i j : Nat) (ts : List Tk) : Prop := ∀ acc r, acc.length + ts.length ≤ 600 → L0 x (acc ++ ts) j r → L0 x acc i r
theorem Run.refl (x : ByteArray) (i : Nat) : Run x i i [] := fun acc r _ h => by rwa [List.append_nil] at h
theorem Run.trans {x : ByteArray} {i j k : Nat} {ts us : List Tk} (a : Run x i j ts) (b : Run x j k us) : Run x i k (ts ++ us) := fun acc r hl h => by
 rw [List.length_append] at hl
 refine a acc r (by omega) (b (acc ++ ts) r (by rw [List.length_append]; omega) ?_)
 rwa [List.append_assoc]
theorem drop_bt {x : ByteArray} {i : Nat} {c : UInt8} {r : List UInt8} (h : x.toList.drop i = c :: r) : i < x.size ∧ bt x (i : Int) = (c.toNat : Int) ∧ x.toList.drop (i + 1) = r := by
 have hi : i < x.toList.length := by
  apply Classical.byContradiction
  intro q
  rw [List.drop_of_length_le (by omega)] at h
  cases h
 rw [List.drop_eq_getElem_cons hi] at h
 injection h with h1 h2
 exact ⟨by rw [sz_len]; exact hi, by rw [Dig.bt_at x i hi, h1], h2⟩
theorem drop_app {X A B : List UInt8} {i : Nat} (h : X.drop i = A ++ B) : X.drop (i + A.length) = B := by
 rw [← List.drop_drop, h, List.drop_left]
theorem run_spc {x : ByteArray} (hx : x.size ≤ 3000) : ∀ (S : List UInt8) (i : Nat) (rest : List UInt8), (∀ c ∈ S, spc (c.toNat : Int)) → x.toList.drop i = S ++ rest → Run x i (i + S.length) []
 | [], i, rest, _, _ => Run.refl x i
 | c :: S, i, rest, h, hd => by
  obtain ⟨h1, h2, h3⟩ := drop_bt hd
  have hn := run_spc hx S (i + 1) rest (fun d hd => h d (List.mem_cons_of_mem _ hd)) h3
  intro acc r hl hr
  refine t_space hx h1 (by rw [h2]; exact h c (List.mem_cons_self ..)) (hn acc r hl ?_)
  rw [show i + 1 + S.length = i + (c :: S).length by simp; omega]
  exact hr
theorem wb_edge {c : UInt8} (h : wb c = true) : ¬ edge (c.toNat : Int) := by
 intro e
 have key : ∀ d : UInt8, (c.toNat : Int) = (d.toNat : Int) → c = d := fun d q => UInt8.toNat_inj.1 (by omega)
 have : c = 32 ∨ c = 9 ∨ c = 10 ∨ c = 40 ∨ c = 41 ∨ c = 59 := by
  rcases e with (q | q | q) | q | q | q
  ·exact Or.inl (key 32 q)
  ·exact Or.inr (Or.inl (key 9 q))
  ·exact Or.inr (Or.inr (Or.inl (key 10 q)))
  ·exact Or.inr (Or.inr (Or.inr (Or.inl (key 40 q))))
  ·exact Or.inr (Or.inr (Or.inr (Or.inr (Or.inl (key 41 q)))))
  ·exact Or.inr (Or.inr (Or.inr (Or.inr (Or.inr (key 59 q)))))
 rcases this with q | q | q | q | q | q <;> (rw [q] at h; exact absurd h (by decide))
theorem run_l2 {x : ByteArray} (hx : x.size ≤ 3000) {acc : List Tk} {r : TR} : ∀ (w : List UInt8) (i n : Nat) (rest : List UInt8), (∀ c ∈ w, wb c = true) → x.toList.drop (i + n) = w ++ rest → (∀ c T, rest = c :: T → edge (c.toNat : Int)) → i + n ≤ x.size → J3 x acc i (n + w.length) r → L2 x acc i n r
 | [], i, n, rest, _, hd, he, hn, h => by
  refine l_end hx hn (fun hlt => ?_) h
  have hi : i + n < x.toList.length := by rw [← sz_len]; exact hlt
  rw [List.nil_append] at hd
  have hc := he _ _ (hd.symm.trans (List.drop_eq_getElem_cons hi))
  rw [Dig.bt_at x (i + n) hi]
  exact hc
 | c :: w, i, n, rest, hw, hd, he, hn, h => by
  obtain ⟨h1, h2, h3⟩ := drop_bt hd
  refine l_next hx h1 (by rw [h2]; exact wb_edge (hw c (List.mem_cons_self ..))) ?_
  refine run_l2 hx w i (n + 1) rest (fun d hd => hw d (List.mem_cons_of_mem _ hd)) h3 he (by omega) ?_
  rw [show n + 1 + w.length = n + (c :: w).length by simp; omega]
  exact h
theorem wd_eq {x : ByteArray} {i : Nat} {w rest : List UInt8} (h : x.toList.drop i = w ++ rest) : wd x i w.length = ⟨w.toArray⟩ := by
 have hl : (wd x i w.length).data.toList = w := by
  unfold wd
  rw [ByteArray.data_extract, Array.toList_extract, ← tl_data]
  rw [List.extract_eq_take_drop, h]
  simp
 exact ByteArray.ext (Array.ext' hl)
theorem run_word {x : ByteArray} (hx : x.size ≤ 3000) {i : Nat} {w rest : List UInt8} {t : Tk} (hw : ∀ c ∈ w, wb c = true) (hne : w ≠ []) (hd : x.toList.drop i = w ++ rest) (he : ∀ c T, rest = c :: T → edge (c.toNat : Int))
  (hj : ∀ acc r, acc.length < 600 → L0 x (acc ++ [t]) (i + w.length) r → J3 x acc i w.length r) : Run x i (i + w.length) [t] := by
 intro acc r hl hr
 match w, hne with
 | c :: w, _ =>
  obtain ⟨h1, h2, h3⟩ := drop_bt hd
  refine t_word h1 (by rw [h2]; exact wb_edge (hw c (List.mem_cons_self ..))) ?_
  refine run_l2 hx w i 1 rest (fun d hd => hw d (List.mem_cons_of_mem _ hd)) h3 he (by omega) ?_
  rw [show 1 + w.length = (c :: w).length by simp; omega]
  exact hj acc r (by simp at hl; omega) hr
theorem run_leaf {x : ByteArray} (hx : x.size ≤ 3000) {i : Nat} {f : Fm} {rest : List UInt8} (hf : LeafOk f) (hd : x.toList.drop i = leafT f ++ rest) (he : ∀ c T, rest = c :: T → edge (c.toNat : Int)) :
  ∃ t : Tk, (t.f0 = 3 ∨ t.f0 = 4) ∧ Hd f (fm t) ∧ Run x i (i + (leafT f).length) [t] := by
 obtain ⟨hne, hlen, hwb⟩ := leaf_wb hf
 have hle : i + (leafT f).length ≤ x.size := by
  have h1 := congrArg List.length hd
  rw [sz_len]
  rw [List.length_drop, List.length_append] at h1
  have : 0 < (leafT f).length := List.length_pos_iff.2 hne
  omega
 have hwd := wd_eq hd
 rcases hf with ⟨h0, h2, h1, hs⟩ | ⟨h0, h1, h2, h3⟩
 ·have hT : leafT f = f.f1.data.toList := by unfold leafT; rw [if_neg (by omega)]
  have hw : wd x i (leafT f).length = f.f1 := by rw [hwd, hT]
  refine ⟨⟨3, f.f1, 0, (i : Int)⟩, Or.inl rfl, ⟨h0, rfl, h2⟩, run_word hx hwb hne hd he fun acc r hl hr => ?_⟩
  refine j_name hx hle (by rw [hw]; exact h1) hl ?_
  rw [hw]
  exact hr
 ·have hT : leafT f = text f.f2 := by unfold leafT; rw [if_pos h0]
  have hps : ps (wd x i (leafT f).length).toList = (f.f2, 0) := by rw [hwd, arr_tl, hT, ps_some ⟨h2, h3⟩]
  have hw : wkd (wd x i (leafT f).length) = 4 := by unfold wkd; rw [if_pos (by rw [hps])]
  refine ⟨⟨4, wd x i (leafT f).length, f.f2, (i : Int)⟩, Or.inr rfl, ⟨h0, h1, rfl⟩, run_word hx hwb hne hd he fun acc r hl hr => ?_⟩
  refine j_num hx hle hw hl ?_
  rw [hps]
  exact hr
theorem run_lays {x : ByteArray} (hx : x.size ≤ 3000) {F : Fo} {L : List UInt8} (h : Lays F L) : ∀ (i : Nat) (rest : List UInt8), x.toList.drop i = L ++ rest → (∀ c T, rest = c :: T → edge (c.toNat : Int)) →
  ∃ G ts, Sim F G ∧ ts.length = F.tkn ∧ (∀ us, Tks G (ts ++ us) us) ∧ Run x i (i + L.length) ts := by
 induction h with
 | nil S hS => exact fun i rest hd he => ⟨.nil, [], trivial, rfl, fun us => rfl, run_spc hx S i rest hS hd⟩
 | lf S T f r hS hf hr ht ih =>
  intro i rest hd he
  rw [List.append_assoc, List.append_assoc] at hd
  have r1 := run_spc hx S i _ hS hd
  have hd1 := drop_app hd
  obtain ⟨t, t1, t2, t3⟩ := run_leaf hx hf hd1 (fun c T' e => by
   match T, ht, e with
   | [], _, e => exact he c T' e
   | d :: T, ht, e => injection e with e _; rw [← e]; exact ht d T rfl)
  have hd2 := drop_app hd1
  obtain ⟨G, ts, g1, g2, g3, g4⟩ := ih _ rest hd2 he
  refine ⟨.lf (fm t) G, t :: ts, ⟨t2, g1⟩, by simp only [List.length_cons, g2, Fo.tkn], fun us => ⟨t, ts ++ us, rfl, t1, rfl, g3 us⟩, ?_⟩
  have := (r1.trans t3).trans g4
  rw [show i + (S ++ leafT f ++ T).length = i + S.length + (leafT f).length + T.length by simp only [List.length_append]; omega]
  exact this
 | br S K T f ks r hS hf hk hr ihk ih =>
  intro i rest hd he
  simp only [List.append_assoc] at hd
  have r1 := run_spc hx S i _ hS hd
  have hd1 := drop_app hd
  obtain ⟨o1, o2, o3⟩ := drop_bt (show x.toList.drop (i + S.length) = 40 :: (K ++ ([41] ++ (T ++ rest))) from hd1)
  obtain ⟨G, ts, g1, g2, g3, g4⟩ := ihk _ _ o3 (fun c T' e => by injection e with e _; rw [← e]; decide)
  have hd2 := drop_app o3
  obtain ⟨c1, c2, c3⟩ := drop_bt (show x.toList.drop (i + S.length + 1 + K.length) = 41 :: (T ++ rest) from hd2)
  obtain ⟨H, us, e1, e2, e3, e4⟩ := ih _ _ c3 he
  have ro : Run x (i + S.length) (i + S.length + 1) [(⟨1, x.extract (i + S.length) (i + S.length + 1), 0, ((i + S.length : Nat) : Int)⟩ : Tk)] := fun acc q hl hq => t_open hx o1 o2 (by simp at hl; omega) hq
  have rc : Run x (i + S.length + 1 + K.length) (i + S.length + 1 + K.length + 1) [(⟨2, x.extract (i + S.length + 1 + K.length) (i + S.length + 1 + K.length + 1), 0, ((i + S.length + 1 + K.length : Nat) : Int)⟩ : Tk)] := fun acc q hl hq => t_close hx c1 c2 (by simp at hl; omega) hq
  have hall := (((r1.trans ro).trans g4).trans rc).trans e4
  refine ⟨.br (fm ⟨1, x.extract (i + S.length) (i + S.length + 1), 0, ((i + S.length : Nat) : Int)⟩) G H, (⟨1, x.extract (i + S.length) (i + S.length + 1), 0, ((i + S.length : Nat) : Int)⟩ : Tk) :: (ts ++ (⟨2, x.extract (i + S.length + 1 + K.length) (i + S.length + 1 + K.length + 1), 0, ((i + S.length + 1 + K.length : Nat) : Int)⟩ : Tk) :: us), ⟨⟨hf.1, hf.2.1, hf.2.2⟩, g1, e1⟩, ?_, fun vs => ?_, ?_⟩
  ·simp only [List.length_cons, List.length_append, g2, e2, Fo.tkn]; omega
  ·refine ⟨_, _, ⟨2, x.extract (i + S.length + 1 + K.length) (i + S.length + 1 + K.length + 1), 0, ((i + S.length + 1 + K.length : Nat) : Int)⟩, us ++ vs, List.cons_append .., rfl, rfl, rfl, ?_, e3 vs⟩
   rw [List.append_assoc]
   exact g3 _
  ·have hlen : i + (S ++ [(40 : UInt8)] ++ K ++ [(41 : UInt8)] ++ T : List UInt8).length = i + S.length + 1 + K.length + 1 + T.length := by simp only [List.length_append, List.length_cons, List.length_nil]; omega
   rw [hlen]
   have e : (⟨1, x.extract (i + S.length) (i + S.length + 1), 0, ((i + S.length : Nat) : Int)⟩ : Tk) :: (ts ++ (⟨2, x.extract (i + S.length + 1 + K.length) (i + S.length + 1 + K.length + 1), 0, ((i + S.length + 1 + K.length : Nat) : Int)⟩ : Tk) :: us) = [] ++ [(⟨1, x.extract (i + S.length) (i + S.length + 1), 0, ((i + S.length : Nat) : Int)⟩ : Tk)] ++ ts ++ [(⟨2, x.extract (i + S.length + 1 + K.length) (i + S.length + 1 + K.length + 1), 0, ((i + S.length + 1 + K.length : Nat) : Int)⟩ : Tk)] ++ us := by simp
   rw [e]
   exact hall
theorem read_lays {x : ByteArray} (hx : x.size ≤ 3000) {F : Fo} (h : Lays F x.toList) (ha : F.all LeafOk BrOk) (hs : F.size ≤ 400) (hd : F.dep ≤ 12) (ht : F.tkn ≤ 600) :
  ∃ l G, Ev (fun k => reticulelaw08_read.f k x) (l, G.pls 0, true) ∧ Std l G ∧ Sim F G := by
 obtain ⟨G, ts, g1, g2, g3, g4⟩ := run_lays hx h 0 [] (by simp) (fun c T e => by cases e)
 have hz : (0 : Nat) + x.toList.length = x.size := by rw [sz_len]; omega
 rw [hz] at g4
 have h0 := g4 [] (ts, 0, 0) (by simp; omega) (by rw [List.nil_append]; exact t_end)
 have ht0 : Ev (fun k => reticuleref06_Tokens.f k x) (ts, 0, 0) := by
  refine Ev.congr (fun k => ?_) h0
  unfold reticuleref06_Tokens.f
  rw [if_neg (by omega)]
  rfl
 obtain ⟨d1, d2, d3, d4⟩ := g1.dims
 have hT := g3 []
 rw [List.append_nil] at hT
 obtain ⟨l, p1, p2, p3⟩ := parse_to G ts hT (by omega) (by omega)
 refine ⟨l, G, ?_, ⟨p3, p2, g1.all ha, by omega, by omega⟩, g1⟩
 have hp := parse_f ts (by omega)
 rw [p1] at hp
 refine Ev.bind (f := fun k bt178 => (if bt178.2.2 = 0 then ((reticuleref07_Parse.f k bt178.1).bind fun bt183 => (some (bt183.1, bt183.2.1, (bt183.2.2.2 == 0)))) else (some (([] : List Fm), ([] : List Int), false)))) ht0 ?_
 refine Ev.congr (f := fun k => (reticuleref07_Parse.f k ts).bind fun bt183 => (some (bt183.1, bt183.2.1, (bt183.2.2.2 == 0)))) (fun k => by rw [if_pos rfl]) ?_
 exact Ev.bind (f := fun _ bt183 => (some (bt183.1, bt183.2.1, (bt183.2.2.2 == 0)))) hp (Ev.now _)
end Go.Proofs.Ytldjbgonlbmeaaa.F
end
section
/- Plain law: what must be whatever is asked. -/
set_option linter.unusedSimpArgs false
set_option linter.unusedVariables false
namespace Go.Proofs.Ytldjbgonlbmeaaa.F
open Go.RowKit Go.Proofs.Ytldjbgonlbmeaaa.PA Go.Proofs.Ytldjbgonlbmeaaa.PB Go.Proofs.Ytldjbgonlbmeaaa.PC Go.Proofs.Ytldjbgonlbmeaaa.T Go.Proofs.Ytldjbgonlbmeaaa.Nm Go.Proofs.Ytldjbgonlbmeaaa.Dig Go.Proofs.YtldjbgonlbmeaaaW.PrintWords Go.Proofs.YtldjbgonlbmeaaaW.PrintLast
theorem lines_f (L : List UInt8) (h : L.length ≤ 1000000) : show_Lines.f (⟨L.toArray⟩ : ByteArray) = some ((L.count 10 : Int) + 1) := by
 have hc : strings_Count.f (⟨L.toArray⟩ : ByteArray) (⟨#[10]⟩ : ByteArray) = some (L.count 10 : Int) := rfl
 have := List.count_le_length (l := L) (a := (10 : UInt8))
 unfold show_Lines.f
 rw [hc, Option.bind_some, show wrap64 ((L.count 10 : Int) + 1) = (L.count 10 : Int) + 1 by unfold wrap64; omega]
def lvL : List Fm := [⟨1, ⟨#[]⟩, 0, [1, 2], 0⟩, ⟨3, ⟨#[97]⟩, 0, [], 0⟩, ⟨1, ⟨#[]⟩, 0, [3], 0⟩, ⟨4, ⟨#[]⟩, -4, [], 0⟩]
def lvF : Fo := .br ⟨1, ⟨#[]⟩, 0, [], 0⟩ (.lf ⟨3, ⟨#[97]⟩, 0, [], 0⟩ (.br ⟨1, ⟨#[]⟩, 0, [], 0⟩ (.lf ⟨4, ⟨#[]⟩, -4, [], 0⟩ .nil) .nil)) .nil
theorem text4 : text (-4) = [45, 52] := by
 rw [text_neg (by decide), show (-4 : Int).natAbs = 4 from rfl, dec_small (by decide)]
 rfl
theorem wkd_a : wkd ⟨#[97]⟩ = 3 := by
 have hl : (⟨#[97]⟩ : ByteArray).toList = [97] := by rw [Go.ByteArray.toList_eq]
 have h0 : (ps (⟨#[97]⟩ : ByteArray).toList).2 ≠ 0 := by
  rw [ps_none]
  ·decide
  ·rintro ⟨v, _, e⟩
   rw [hl] at e
   by_cases h : v < 0
   ·rw [text_neg h] at e
    injection e with e1 _
    exact absurd e1 (by decide)
   ·rw [text_nat h] at e
    have := (dec_val v.natAbs).2 97 (by rw [← e]; exact List.mem_cons_self ..)
    exact absurd this (by decide)
 unfold wkd
 rw [if_neg h0, if_neg (by rw [hl]; decide), if_pos (by decide)]
theorem lv_std : Std lvL lvF where
 fl := ⟨by decide, rfl, ⟨by decide, rfl, ⟨by decide, rfl, ⟨by decide, rfl, trivial⟩, trivial⟩⟩, trivial⟩
 len := rfl
 ok := ⟨⟨rfl, rfl, rfl⟩, ⟨Or.inl ⟨rfl, rfl, wkd_a, by decide⟩, ⟨rfl, rfl, rfl⟩, ⟨Or.inr ⟨rfl, rfl, by decide, by decide⟩, trivial⟩, trivial⟩, trivial⟩
 small := by decide
 deep := by decide
theorem live_f : Ev (fun k => reticulelaw08_live.f k) true := by
 have e1 : lvF.pl = [40, 97, 32, 40, 45, 52, 41, 41, 10] := by
  show [40] ++ ([] ++ [97] ++ ([32] ++ [40] ++ ([] ++ text (-4) ++ []) ++ [41] ++ [])) ++ [41] ++ [10] ++ [] = _
  rw [text4]; rfl
 have e2 : lvF.yl = [40, 97, 10, 32, 32, 40, 45, 52, 41, 41, 10] := by
  show [40] ++ ([] ++ [97] ++ (lineL 1 ++ ([40] ++ ([] ++ text (-4) ++ []) ++ [41]) ++ [])) ++ [41] ++ [10] ++ [] = _
  rw [text4]; rfl
 have e3 : show_One.f lvL 2 = some (⟨#[40, 45, 52, 41]⟩, 0) := by
  have ho : Okl lvL = true := by decide
  have hw : wone lvL lvL.length 2 400 [] = (true, 398, [] ++ [40] ++ text (-4) ++ [41]) := rfl
  unfold show_One.f oneS
  rw [if_pos ho, if_neg (by decide), hw, if_pos rfl, text4]
  rfl
 have hp := lv_std.print
 have hy := lv_std.pretty
 rw [e1] at hp
 rw [e2] at hy
 have hl : show_Lines.f (⟨#[40, 97, 10, 32, 32, 40, 45, 52, 41, 41, 10]⟩ : ByteArray) = some 3 := lines_f [40, 97, 10, 32, 32, 40, 45, 52, 41, 41, 10] (by decide)
 have tl : ∀ L : List UInt8, (⟨L.toArray⟩ : ByteArray).toList = L := fun L => by rw [Go.ByteArray.toList_eq]
 obtain ⟨K1, h1⟩ := hp
 obtain ⟨K2, h2⟩ := hy
 refine ⟨max K1 K2, fun k hk => ?_⟩
 have q1 : show_Print.f k lvL (lvF.pls 0) = _ := h1 k (by omega)
 have q2 : show_Pretty.f k lvL (lvF.pls 0) = _ := h2 k (by omega)
 show reticulelaw08_live.f k = _
 unfold reticulelaw08_live.f
 rw [Option.bind_some]
 show (show_Print.f k lvL (lvF.pls 0)).bind _ = _
 rw [q1, Option.bind_some]
 show (show_Pretty.f k lvL (lvF.pls 0)).bind _ = _
 rw [q2, Option.bind_some]
 show (show_One.f lvL 2).bind _ = _
 rw [e3, Option.bind_some, if_pos rfl, if_pos (tl _), if_pos rfl, if_pos (tl _), if_pos rfl, if_pos (tl [40, 45, 52, 41])]
 show (show_Lines.f (⟨#[40, 97, 10, 32, 32, 40, 45, 52, 41, 41, 10]⟩ : ByteArray)).bind _ = _
 rw [hl]
 rfl
theorem live_true {k : Nat} {r : Bool} (h : reticulelaw08_live.f k = some r) : r = true := by
 obtain ⟨K, hK⟩ := live_f
 have h1 : reticulelaw08_live.f (max k K) = some r := at_rounds (g := fun k => reticulelaw08_live.f k) reticulelaw08_live.mono (Nat.le_max_left k K) h
 have h2 : reticulelaw08_live.f (max k K) = some true := hK _ (Nat.le_max_right k K)
 rw [h1] at h2
 exact Option.some.inj h2
end Go.Proofs.Ytldjbgonlbmeaaa.F
end
