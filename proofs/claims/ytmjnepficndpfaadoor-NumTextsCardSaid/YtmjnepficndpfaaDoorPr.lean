/- Plain law: what the document's Parse tells. -/
import Derived.Test.YtmjnepficndpfaaDoorPs
set_option linter.unusedSimpArgs false
set_option linter.unusedVariables false
namespace Go.Proofs.YtmjnepficndpfaaDoor.Dig
open Go.RowKit Go.Proofs.YtmjnepficndpfaaDoor.PT Go.Proofs.YtmjnepficndpfaaDoorW.PrintWords

theorem dval_lt : ∀ (l : List UInt8) (n : Nat), (∀ c ∈ l, isd c = true) → ∀ m, n < 10 ^ m → l.foldl (fun n c => n * 10 + (c.toNat - 48)) n < 10 ^ (m + l.length)
  | [], n, _, m, h => h
  | c :: l, n, hl, m, h => by
    have hc := hl c List.mem_cons_self
    simp only [isd, Bool.and_eq_true, decide_eq_true_eq] at hc
    have := dval_lt l (n * 10 + (c.toNat - 48)) (fun x hx => hl x (List.mem_cons_of_mem _ hx)) (m + 1) (by rw [Nat.pow_succ]; omega)
    rw [List.foldl_cons, List.length_cons, show m + (l.length + 1) = m + 1 + l.length by omega]
    exact this
def finR (neg : Bool) (D : Nat) : Int × Int := if neg = true then (if 9223372036854775808 < D then (0, 3) else (-(D : Int), 0)) else (if 9223372036854775807 < D then (0, 3) else ((D : Int), 0))
theorem rp_j4 (k : Nat) (neg : Bool) (D : Nat) (h : D < 18446744073709551616) : (if neg = true then (if (D : Int) > 9223372036854775808 then (reticuleref01_Parse.j4 (k + 1) neg (D : Int) true) else (reticuleref01_Parse.j4 (k + 1) neg (D : Int) false)) else (reticuleref01_Parse.j4 (k + 1) neg (D : Int) (decide ((D : Int) > 9223372036854775807)))) = some (finR neg D) := by
  unfold finR
  cases neg with
  | true =>
    simp only [if_true, reticuleref01_Parse.j4]
    by_cases c : 9223372036854775808 < D
    · rw [if_pos (by omega), if_pos c]
    · rw [if_neg (by omega), if_neg c]
      simp only [Bool.false_eq_true, if_false, IntKind.wrap_u64]
      congr 2
      unfold wrap64
      omega
  | false =>
    simp only [Bool.false_eq_true, if_false, reticuleref01_Parse.j4]
    by_cases c : 9223372036854775807 < D
    · rw [decide_eq_true (by omega), if_pos c]
      rfl
    · rw [decide_eq_false (by omega), if_neg c]
      simp only [Bool.false_eq_true, if_false]
      congr 2
      unfold wrap64
      omega
theorem rp_l0 (y : ByteArray) (neg : Bool) (hy : y.toList.length ≤ 19) : ∀ (d i k N : Nat), i + d = y.toList.length → d + 2 < k → N < 10 ^ i → reticuleref01_Parse.l0 k y neg (N : Int) (i : Int) = if (∀ c ∈ y.toList.drop i, isd c = true) then some (finR neg ((y.toList.drop i).foldl (fun n c => n * 10 + (c.toNat - 48)) N)) else some (0, 3)
  | 0, i, k, N, h, hk, hN => by
    obtain ⟨k, rfl⟩ : ∃ m, k = m + 1 + 1 := ⟨k - 2, by omega⟩
    have hz := sz_len y
    have hp : 10 ^ i ≤ 10 ^ 19 := Nat.pow_le_pow_right (by decide) (by omega)
    conv => lhs; unfold reticuleref01_Parse.l0
    rw [if_neg (by omega), List.drop_eq_nil_of_le (by omega), if_pos (fun c hc => by cases hc)]
    exact rp_j4 k neg N (by omega)
  | d + 1, i, k, N, h, hk, hN => by
    obtain ⟨k, rfl⟩ : ∃ m, k = m + 1 := ⟨k - 1, by omega⟩
    have hz := sz_len y
    have hi : i < y.toList.length := by omega
    have hw : wrap64 ((i : Int) + 1) = ((i + 1 : Nat) : Int) := by unfold wrap64; omega
    have hp : 10 ^ (i + 1) ≤ 10 ^ 19 := Nat.pow_le_pow_right (by decide) (by omega)
    rw [Nat.pow_succ] at hp
    conv => lhs; unfold reticuleref01_Parse.l0
    rw [if_pos (by omega), if_pos (by omega), bt_at y i hi, hw, List.drop_eq_getElem_cons hi]
    by_cases hc : isd y.toList[i] = true
    · have hc2 := hc
      simp only [isd, Bool.and_eq_true, decide_eq_true_eq] at hc2
      rw [if_neg (by omega), if_neg (by omega)]
      have hv : IntKind.u64.wrap ((IntKind.u64.wrap ((N : Int) * 10)) + ((((y.toList[i].toNat : Nat) : Int) - 48) % 256)) = ((N * 10 + (y.toList[i].toNat - 48) : Nat) : Int) := by
        rw [IntKind.wrap_u64, IntKind.wrap_u64]
        omega
      rw [hv, rp_l0 y neg hy d (i + 1) k _ (by omega) (by omega) (by rw [Nat.pow_succ]; omega), List.foldl_cons]
      by_cases ha : ∀ c ∈ y.toList.drop (i + 1), isd c = true
      · rw [if_pos ha, if_pos (fun c hm => (List.mem_cons.1 hm).elim (fun e => by rw [e]; exact hc) (ha c))]
      · rw [if_neg ha, if_neg (fun q => ha (fun c hm => q c (List.mem_cons_of_mem _ hm)))]
    · have hn : ¬ ∀ c ∈ y.toList[i] :: y.toList.drop (i + 1), isd c = true := fun q => hc (q _ List.mem_cons_self)
      simp only [isd, Bool.and_eq_true, decide_eq_true_eq] at hc
      by_cases h1 : (y.toList[i].toNat : Int) < 48
      · rw [if_pos h1, if_neg hn]
      · rw [if_neg h1, if_pos (by omega), if_neg hn]
/-- What digits with or without a sign come to. -/
theorem rp_res (L ds : List UInt8) (neg : Bool) (hL : L = if neg = true then 45 :: ds else ds) (hn : neg = false → ∀ r, L ≠ 45 :: r) (h0 : 1 ≤ ds.length) (h1 : ds.length ≤ 19) (hh : (∀ c r, ds = c :: r → c.toNat ≠ 48) ∨ L = [48]) :
    (if (∀ c ∈ ds, isd c = true) then some (finR neg (dval ds)) else some (0, 3)) = some (ps L) := by
  have inv : ∀ v, L = text v → ds = dec v.natAbs ∧ (neg = true ↔ v < 0) := fun v hv => by
    cases neg with
    | true =>
      rw [if_pos rfl] at hL
      rw [hL] at hv
      by_cases h : v < 0
      · rw [text_neg h] at hv
        exact ⟨(List.cons.inj hv).2, by simp [h]⟩
      · rw [text_nat h] at hv
        have := (dec_val v.natAbs).2 45 (by rw [← hv]; simp)
        exact absurd this (by decide)
    | false =>
      rw [if_neg (by simp)] at hL
      by_cases h : v < 0
      · rw [text_neg h] at hv
        exact absurd hv (hn rfl _)
      · rw [text_nat h] at hv
        exact ⟨by rw [← hL, hv], by simp [h]⟩
  by_cases hd : ∀ c ∈ ds, isd c = true
  · rw [if_pos hd]
    congr 1
    have hdec : dec (dval ds) = ds ∧ (neg = true → dval ds ≠ 0) := by
      rcases hh with hh | hh
      · obtain ⟨q1, q2⟩ := dec_of (ds.length - 1) ds (by omega) hd hh
        exact ⟨q1, fun _ => q2⟩
      · cases neg with
        | true => rw [if_pos rfl] at hL; rw [hL] at hh; exact absurd (List.cons.inj hh).1 (by decide)
        | false =>
          rw [if_neg (by simp)] at hL
          rw [← hL, hh]
          exact ⟨by rw [show dval [48] = 0 by decide, dec_small (by decide)]; rfl, fun h => by cases h⟩
    unfold finR
    cases neg with
    | true =>
      rw [if_pos rfl]
      have hz := hdec.2 rfl
      by_cases c : 9223372036854775808 < dval ds
      · rw [if_pos c, ps_none]
        rintro ⟨v, hv, e⟩
        obtain ⟨k1, _⟩ := inv v e
        rw [k1, (dec_val _).1] at c
        unfold W64 at hv
        omega
      · rw [if_neg c]
        have e : L = text (-((dval ds : Nat) : Int)) := by
          rw [text_neg (by omega), show (-((dval ds : Nat) : Int)).natAbs = dval ds by omega, hdec.1, hL, if_pos rfl]
        rw [e, ps_some (by unfold W64; omega)]
    | false =>
      rw [if_neg (by simp)]
      by_cases c : 9223372036854775807 < dval ds
      · rw [if_pos c, ps_none]
        rintro ⟨v, hv, e⟩
        obtain ⟨k1, k2⟩ := inv v e
        have : ¬ v < 0 := fun q => by have := k2.2 q; cases this
        rw [k1, (dec_val _).1] at c
        unfold W64 at hv
        omega
      · rw [if_neg c]
        have e : L = text ((dval ds : Nat) : Int) := by
          rw [text_nat (by omega), Int.natAbs_natCast, hdec.1, hL, if_neg (by simp)]
        rw [e, ps_some (by unfold W64; omega)]
  · rw [if_neg hd, ps_none]
    rintro ⟨v, hv, e⟩
    exact hd (by rw [(inv v e).1]; exact (dec_val _).2)
theorem ps_short {L : List UInt8} {neg : Bool} {ds : List UInt8} (hL : L = if neg = true then 45 :: ds else ds) (hn : neg = false → ∀ r, L ≠ 45 :: r) (h : ds.length < 1 ∨ 19 < ds.length) : ps L = (0, 3) := ps_none (fun ⟨v, hv, e⟩ => by
  have l1 := dec_pos v.natAbs
  have l2 := dec_len 18 v.natAbs (by unfold W64 at hv; omega)
  have hds : ds = dec v.natAbs := by
    cases neg with
    | true =>
      rw [if_pos rfl] at hL
      rw [hL] at e
      by_cases h : v < 0
      · rw [text_neg h] at e
        exact (List.cons.inj e).2
      · rw [text_nat h] at e
        have := (dec_val v.natAbs).2 45 (by rw [← e]; simp)
        exact absurd this (by decide)
    | false =>
      rw [if_neg (by simp)] at hL
      by_cases h : v < 0
      · rw [text_neg h] at e
        exact absurd e (hn rfl _)
      · rw [text_nat h] at e
        rw [← hL, e]
  rw [hds] at h
  omega)
theorem ps_nought {L : List UInt8} {neg : Bool} {ds : List UInt8} (hL : L = if neg = true then 45 :: ds else ds) (hn : neg = false → ∀ r, L ≠ 45 :: r) {r : List UInt8} (hd : ds = 48 :: r) (hone : L ≠ [48]) : ps L = (0, 3) := ps_none (fun ⟨v, hv, e⟩ => by
  have key : ∀ n : Nat, dec n = 48 :: r → n = 0 ∧ r = [] := fun n hn => by
    by_cases q : n = 0
    · subst q
      rw [dec_small (by decide)] at hn
      exact ⟨rfl, (List.cons.inj hn).2.symm⟩
    · obtain ⟨c, t, h1, h2⟩ := dec_head n q
      rw [h1] at hn
      exact absurd (by rw [(List.cons.inj hn).1]; rfl) h2
  cases neg with
  | true =>
    rw [if_pos rfl] at hL
    rw [hL] at e
    by_cases h : v < 0
    · rw [text_neg h] at e
      have := (key v.natAbs ((List.cons.inj e).2.symm.trans hd)).1
      omega
    · rw [text_nat h] at e
      have := (dec_val v.natAbs).2 45 (by rw [← e]; simp)
      exact absurd this (by decide)
  | false =>
    rw [if_neg (by simp)] at hL
    by_cases h : v < 0
    · rw [text_neg h] at e
      exact absurd e (hn rfl _)
    · rw [text_nat h] at e
      have := (key v.natAbs (by rw [← e, hL, hd])).2
      subst this
      exact absurd (show L = [48] by rw [hL, hd]) hone)
theorem rp_j1 (x y : ByteArray) (neg : Bool) (hL : x.toList = if neg = true then 45 :: y.toList else y.toList) (hn : neg = false → ∀ r, x.toList ≠ 45 :: r) (k : Nat) (hk : 50 ≤ k) : reticuleref01_Parse.j1 k x y neg = some (ps x.toList) := by
  obtain ⟨k, rfl⟩ : ∃ m, k = m + 1 + 1 := ⟨k - 2, by omega⟩
  have hz := sz_len y
  have j2t : reticuleref01_Parse.j2 (k + 1) y neg true = some (0, 3) := by simp [reticuleref01_Parse.j2]
  have j2f : reticuleref01_Parse.j2 (k + 1) y neg false = reticuleref01_Parse.l0 k y neg 0 0 := by simp [reticuleref01_Parse.j2]
  simp only [reticuleref01_Parse.j1]
  by_cases h1 : (y.size : Int) < 1
  · rw [if_pos h1, j2t, ps_short hL hn (.inl (by omega))]
  · rw [if_neg h1]
    by_cases h2 : (y.size : Int) > 19
    · rw [if_pos h2, j2t, ps_short hL hn (.inr (by omega))]
    · rw [if_neg h2, if_pos (by omega)]
      have hpos : 0 < y.toList.length := by omega
      have hb := bt_at y 0 hpos
      rw [show ((0 : Nat) : Int) = 0 from rfl] at hb
      obtain ⟨c, r, hcr⟩ : ∃ c r, y.toList = c :: r := by
        cases hq : y.toList with
        | nil => rw [hq] at hpos; simp at hpos
        | cons c r => exact ⟨c, r, rfl⟩
      have hb2 : bt y 0 = (c.toNat : Int) := by rw [hb]; simp only [hcr, List.getElem_cons_zero]
      have hl0 := rp_l0 y neg (by omega) y.toList.length 0 k 0 (by omega) (by omega) (by decide)
      rw [List.drop_zero, show ((0 : Nat) : Int) = 0 from rfl] at hl0
      rw [hb2]
      by_cases hc : (c.toNat : Int) = 48
      · have hc' : c = 48 := UInt8.toNat_inj.1 (show c.toNat = 48 by omega)
        rw [if_pos hc]
        by_cases hone : x.toList = [48]
        · rw [show (x.toList != ([48] : List UInt8)) = false by rw [hone]; rfl, j2f, hl0]
          exact rp_res x.toList y.toList neg hL hn (by omega) (by omega) (.inr hone)
        · rw [show (x.toList != ([48] : List UInt8)) = true by simpa using hone, j2t, ps_nought hL hn (by rw [hcr, hc']) hone]
      · rw [if_neg hc, j2f, hl0]
        exact rp_res x.toList y.toList neg hL hn (by omega) (by omega) (.inl (fun d t h => by
          rw [hcr] at h
          rw [← (List.cons.inj h).1]
          omega))
theorem rp_f (x : ByteArray) : reticuleref01_Parse.f 60 x = some (ps x.toList) := by
  have hz := sz_len x
  unfold reticuleref01_Parse.f
  have jf : ∀ k y, reticuleref01_Parse.j0 (k + 1) x y false = reticuleref01_Parse.j1 k x y false := fun k y => by simp [reticuleref01_Parse.j0]
  by_cases h0 : (x.size : Int) > 0
  · rw [if_pos h0, if_pos (by omega)]
    obtain ⟨c, r, hcr⟩ : ∃ c r, x.toList = c :: r := by
      cases hq : x.toList with
      | nil => rw [hq] at hz; simp only [List.length_nil] at hz; omega
      | cons c r => exact ⟨c, r, rfl⟩
    have hb := bt_at x 0 (by rw [hcr]; simp)
    rw [show ((0 : Nat) : Int) = 0 from rfl] at hb
    have hb2 : bt x 0 = (c.toNat : Int) := by rw [hb]; simp only [hcr, List.getElem_cons_zero]
    rw [hb2]
    by_cases hc : c = 45
    · subst hc
      rw [show (((45 : UInt8).toNat : Int) == 45) = true by decide]
      have jt : reticuleref01_Parse.j0 (59 + 1) x x true = reticuleref01_Parse.j1 59 x (x.extract 1 x.size) true := by
        simp only [reticuleref01_Parse.j0, if_true]
        rw [if_pos (by omega)]
      rw [show (60 : Nat) = 59 + 1 from rfl, jt]
      refine rp_j1 x _ true ?_ (fun h => by cases h) 59 (by decide)
      have hlen : x.size = r.length + 1 := by rw [hz, hcr]; simp
      rw [if_pos rfl, hcr]
      congr 1
      rw [tl_data] at hcr ⊢
      simp [ByteArray.data_extract, hcr]
      rw [List.take_of_length_le (by omega)]
    · rw [show ((c.toNat : Int) == 45) = false by
        rw [beq_eq_false_iff_ne]
        intro q
        exact hc (UInt8.toNat_inj.1 (show c.toNat = 45 by omega))]
      rw [show (60 : Nat) = 59 + 1 from rfl, jf]
      exact rp_j1 x x false rfl (fun _ r h => by rw [hcr] at h; exact hc (List.cons.inj h).1) 59 (by decide)
  · rw [if_neg h0, show (60 : Nat) = 59 + 1 from rfl, jf]
    exact rp_j1 x x false rfl (fun _ r h => by rw [h] at hz; simp at hz; omega) 59 (by decide)
end Go.Proofs.YtmjnepficndpfaaDoor.Dig
