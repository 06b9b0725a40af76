/- Plain law: what num.Parse tells. -/
import Derived.Test.YtmjnepficndpfaaDoorTxtLib
import Derived.Test.YtmjnepficndpfaaDoorPTx1
import Derived.Test.YtmjnepficndpfaaDoorPTx2
import Derived.Laws.Strings
set_option linter.unusedSimpArgs false
set_option linter.unusedVariables false
namespace Go.Proofs.YtmjnepficndpfaaDoor.Dig
open Go.RowKit Go.Proofs.YtmjnepficndpfaaDoor.PT Go.Proofs.YtmjnepficndpfaaDoorW.PrintWords

def W64 (v : Int) : Prop := -9223372036854775808 ≤ v ∧ v ≤ 9223372036854775807
open Classical in
/-- What a text says. -/
noncomputable def ps (s : List UInt8) : Int × Int := if h : ∃ v, W64 v ∧ s = text v then (Classical.choose h, 0) else (0, 3)
theorem ps_some {v : Int} (h : W64 v) : ps (text v) = (v, 0) := by
  have h2 : ∃ u, W64 u ∧ text v = text u := ⟨v, h, rfl⟩
  unfold ps
  rw [dif_pos h2]
  have := (Classical.choose_spec h2).2
  rw [← text_inj this]
theorem ps_none {s : List UInt8} (h : ¬ ∃ v, W64 v ∧ s = text v) : ps s = (0, 3) := by
  unfold ps
  rw [dif_neg h]
theorem tl_data (x : ByteArray) : x.toList = x.data.toList := Go.ByteArray.toList_eq x
theorem bt_at (x : ByteArray) (i : Nat) (h : i < x.toList.length) : bt x (i : Int) = (x.toList[i].toNat : Int) := by
  have hd := tl_data x
  have hs : i < x.size := by rw [hd] at h; simpa using h
  unfold bt
  rw [dif_pos (by simpa using hs)]
  simp [hd]
  rfl
theorem sz_len (x : ByteArray) : x.size = x.toList.length := by rw [tl_data]; simp
/-- The digits, one by one. -/
def runD (W : Int) : List UInt8 → Option Int
  | [] => some W
  | c :: r => if isd c = true then runD (wrap64 (wrap64 (W * 10) - (((c.toNat : Int) - 48) % 256))) r else none
theorem runD_all : ∀ (r : List UInt8) (n : Nat), (∀ c ∈ r, isd c = true) → runD (wrap64 (-(n : Int))) r = some (wrap64 (-((r.foldl (fun n c => n * 10 + (c.toNat - 48)) n : Nat) : Int)))
  | [], n, _ => rfl
  | c :: r, n, h => by
    have hc := h c List.mem_cons_self
    rw [runD, if_pos hc, List.foldl_cons, ← runD_all r (n * 10 + (c.toNat - 48)) (fun x hx => h x (List.mem_cons_of_mem _ hx))]
    congr 1
    simp only [isd, Bool.and_eq_true, decide_eq_true_eq] at hc
    unfold wrap64
    omega
theorem runD_none : ∀ (r : List UInt8) (W : Int), (¬ ∀ c ∈ r, isd c = true) → runD W r = none
  | [], W, h => absurd (fun c hc => by cases hc) h
  | c :: r, W, h => by
    rw [runD]
    by_cases hc : isd c = true
    · rw [if_pos hc]
      refine runD_none r _ (fun q => h (fun x hx => ?_))
      rcases List.mem_cons.1 hx with rfl | hx
      · exact hc
      · exact q x hx
    · rw [if_neg hc]
def finN (x : ByteArray) (neg : Bool) (W : Int) : Option (Int × Int) := if neg = true then ((num_Digits.f W).bind fun t => (if t.toList = x.toList then (some (W, 0)) else (some (0, 3)))) else ((num_Digits.f (wrap64 (-W))).bind fun t => (if t.toList = x.toList then (some (wrap64 (-W), 0)) else (some (0, 3))))
theorem np_l0 (x : ByteArray) (neg : Bool) (hx : x.toList.length ≤ 20) : ∀ (d i k : Nat) (W : Int), i + d = x.toList.length → 2 * d < k → (1 ≤ i ∨ neg = false) → num_Parse.l0 k x W neg (x.size : Int) (i : Int) = match runD W (x.toList.drop i) with | none => some (0, 3) | some V => finN x neg V
  | 0, i, k, W, h, hk, _ => by
    obtain ⟨k, rfl⟩ : ∃ m, k = m + 1 := ⟨k - 1, by omega⟩
    have hz := sz_len x
    unfold num_Parse.l0
    rw [if_neg (by omega), List.drop_eq_nil_of_le (by omega)]
    rfl
  | d + 1, i, k, W, h, hk, hs => by
    obtain ⟨k, rfl⟩ : ∃ m, k = m + 1 + 1 := ⟨k - 2, by omega⟩
    have hz := sz_len x
    have hi : i < x.toList.length := by omega
    have hw : wrap64 ((i : Int) + 1) = ((i + 1 : Nat) : Int) := by unfold wrap64; omega
    have hj : num_Parse.l0 (k + 1 + 1) x W neg (x.size : Int) (i : Int) = num_Parse.j2 (k + 1) x W neg (i : Int) (x.size : Int) (i : Int) false := by
      conv => lhs; unfold num_Parse.l0
      rw [if_pos (by omega)]
      rcases hs with hs | hs
      · rw [if_neg (by omega)]
      · split
        · rw [hs]
        · rfl
    rw [hj, List.drop_eq_getElem_cons hi, runD]
    unfold num_Parse.j2
    rw [if_neg (by simp), if_pos (by omega), if_pos (by omega), bt_at x i hi, hw]
    have ih := fun V => np_l0 x neg hx d (i + 1) k V (by omega) (by omega) (.inl (by omega))
    by_cases hc : isd x.toList[i] = true
    · have hc2 := hc
      simp only [isd, Bool.and_eq_true, decide_eq_true_eq] at hc2
      rw [if_pos hc, if_neg (by omega), if_neg (by omega), ih]
    · rw [if_neg hc]
      simp only [isd, Bool.and_eq_true, decide_eq_true_eq] at hc
      by_cases h1 : (x.toList[i].toNat : Int) < 48
      · rw [if_pos h1]
      · rw [if_neg h1, if_pos (by omega)]
theorem w64_rng (z : Int) : W64 (wrap64 z) := by unfold W64 wrap64; omega
theorem dig_f {v : Int} (h : W64 v) : num_Digits.f v = some ⟨(text v).toArray⟩ := by unfold num_Digits.f; exact if_pos h
theorem arr_tl (l : List UInt8) : (⟨l.toArray⟩ : ByteArray).toList = l := by rw [tl_data]
theorem text_ne (v : Int) : text v ≠ [] := fun h => by
  have := dec_pos v.natAbs
  unfold text at h
  split at h
  · cases h
  · rw [h] at this; simp at this
theorem text_len {v : Int} (h : W64 v) : (text v).length ≤ 20 := by
  have := dec_len 18 v.natAbs (by unfold W64 at h; omega)
  unfold text
  split <;> simp <;> omega
theorem np_res (x : ByteArray) (neg : Bool) (ds : List UInt8) (hL : x.toList = if neg = true then 45 :: ds else ds) (hn : neg = false → ∀ r, x.toList ≠ 45 :: r) :
    (match runD 0 ds with | none => some (0, 3) | some V => finN x neg V) = some (ps x.toList) := by
  have inv : ∀ v, x.toList = text v → ds = dec v.natAbs ∧ (neg = true ↔ v < 0) := fun v hv => by
    cases neg with
    | true =>
      rw [if_pos rfl] at hL
      rw [hL] at hv
      by_cases h : v < 0
      · rw [text_neg h] at hv
        exact ⟨(List.cons.inj hv).2, by simp [h]⟩
      · rw [text_nat h] at hv
        have := (dec_val v.natAbs).2 45 (by rw [← hv]; simp)
        exact absurd this (by decide)
    | false =>
      rw [if_neg (by simp)] at hL
      by_cases h : v < 0
      · rw [text_neg h] at hv
        exact absurd hv (hn rfl _)
      · rw [text_nat h] at hv
        exact ⟨by rw [← hL, hv], by simp [h]⟩
  by_cases hd : ∀ c ∈ ds, isd c = true
  · have hr := runD_all ds 0 hd
    rw [show wrap64 (-((0 : Nat) : Int)) = 0 by unfold wrap64; omega] at hr
    rw [hr]
    show finN x neg (wrap64 (-((dval ds : Nat) : Int))) = _
    unfold finN
    cases neg with
    | true =>
      rw [if_pos rfl, dig_f (w64_rng _), Option.bind_some, arr_tl]
      by_cases ht : text (wrap64 (-((dval ds : Nat) : Int))) = x.toList
      · rw [if_pos ht, ← ht, ps_some (w64_rng _)]
      · rw [if_neg ht, ps_none]
        rintro ⟨v, hv, e⟩
        obtain ⟨h1, h2⟩ := inv v e
        have hneg := h2.1 rfl
        apply ht
        rw [e, h1, (dec_val _).1]
        congr 1
        unfold W64 at hv
        unfold wrap64
        omega
    | false =>
      rw [if_neg (by simp), dig_f (w64_rng _), Option.bind_some, arr_tl]
      by_cases ht : text (wrap64 (-(wrap64 (-((dval ds : Nat) : Int))))) = x.toList
      · rw [if_pos ht, ← ht, ps_some (w64_rng _)]
      · rw [if_neg ht, ps_none]
        rintro ⟨v, hv, e⟩
        obtain ⟨h1, h2⟩ := inv v e
        have hneg : ¬ v < 0 := fun q => by have := h2.2 q; cases this
        apply ht
        rw [e, h1, (dec_val _).1]
        congr 1
        unfold W64 at hv
        unfold wrap64
        omega
  · rw [runD_none ds 0 hd, ps_none]
    rintro ⟨v, hv, e⟩
    exact hd (by rw [(inv v e).1]; exact (dec_val _).2)
theorem np_f (x : ByteArray) : num_Parse.f 60 x = some (ps x.toList) := by
  have hz := sz_len x
  unfold num_Parse.f
  by_cases h0 : x.toList = []
  · rw [if_pos h0, h0, ps_none (fun ⟨v, _, e⟩ => text_ne v e.symm)]
    rfl
  · rw [if_neg h0]
    by_cases h1 : (x.size : Int) > 20
    · rw [decide_eq_true h1, ps_none (fun ⟨v, hv, e⟩ => by have := text_len hv; rw [← e] at this; omega)]
      rfl
    · rw [decide_eq_false h1]
      have hpos : 0 < x.toList.length := List.length_pos_iff.2 h0
      have hj0 : ∀ k, num_Parse.j0 (k + 1) x false = num_Parse.l0 k x 0 ((bt x 0) == 45) (x.size : Int) 0 := fun k => by
        simp only [num_Parse.j0, Bool.false_eq_true, if_false]
        rw [if_pos (by omega)]
      rw [show (60 : Nat) = 59 + 1 from rfl, hj0]
      obtain ⟨c, r, hcr⟩ : ∃ c r, x.toList = c :: r := by
        cases hq : x.toList with
        | nil => exact absurd hq h0
        | cons c r => exact ⟨c, r, rfl⟩
      have hb : bt x 0 = (c.toNat : Int) := by
        have := bt_at x 0 hpos
        simp only [hcr, List.getElem_cons_zero] at this
        exact this
      rw [hb]
      by_cases hc : c = 45
      · subst hc
        have e1 : (((45 : UInt8).toNat : Int) == 45) = true := by decide
        rw [e1]
        have hj1 : ∀ k, num_Parse.l0 (k + 1) x 0 true (x.size : Int) 0 = num_Parse.j2 k x 0 true 0 (x.size : Int) 0 true := fun k => by
          conv => lhs; unfold num_Parse.l0
          rw [if_pos (by omega), if_pos rfl]
        have hj2 : ∀ k, num_Parse.j2 (k + 1) x 0 true 0 (x.size : Int) 0 true = num_Parse.l0 k x 0 true (x.size : Int) ((1 : Nat) : Int) := fun k => by
          conv => lhs; unfold num_Parse.j2
          rw [if_pos rfl, show wrap64 (0 + 1) = ((1 : Nat) : Int) by unfold wrap64; omega]
        have hj : num_Parse.l0 59 x 0 true (x.size : Int) 0 = num_Parse.l0 57 x 0 true (x.size : Int) ((1 : Nat) : Int) := by
          rw [show (59 : Nat) = 58 + 1 from rfl, hj1, show (58 : Nat) = 57 + 1 from rfl, hj2]
        rw [hj, np_l0 x true (by omega) (x.toList.length - 1) 1 57 0 (by omega) (by omega) (.inl (Nat.le_refl _))]
        rw [show x.toList.drop 1 = r by rw [hcr]; rfl]
        exact np_res x true r (by rw [hcr]; rfl) (fun h => by cases h)
      · have e1 : (((c.toNat : Int)) == 45) = false := by
          rw [beq_eq_false_iff_ne]
          intro q
          apply hc
          apply UInt8.toNat_inj.1
          show c.toNat = 45
          omega
        rw [e1, show (0 : Int) = ((0 : Nat) : Int) from rfl, np_l0 x false (by omega) x.toList.length 0 59 _ (by omega) (by omega) (.inr rfl), List.drop_zero]
        exact np_res x false x.toList rfl (fun _ r h => by rw [hcr] at h; exact hc (List.cons.inj h).1)
end Go.Proofs.YtmjnepficndpfaaDoor.Dig
