/- Plain facts on decimal digits as bytes: what a text says, and which texts are the text of a number. -/
import Derived.Test.YtmjnepficndpfaaDoorDec
import Derived.Lib.ItoaNum
namespace Go.Proofs.YtmjnepficndpfaaDoor.Dig

theorem itoa_text (a : Int) : Lib.itoa a = text a := by
  have key : ∀ n : Nat, Lib.decDigits n = dec n := by
    intro n
    induction n using Nat.strongRecOn with
    | ind n ih =>
      rw [Lib.decDigits, dec]
      by_cases h : n < 10
      · rw [dif_pos h, if_pos h]
      · rw [dif_neg h, if_neg h, ih (n / 10) (by omega)]
  unfold Lib.itoa text
  by_cases h : a < 0
  · rw [if_pos h, if_pos h, key]
  · rw [if_neg h, if_neg h, key, show a.toNat = a.natAbs by omega]
def isd (c : UInt8) : Bool := decide (48 ≤ c.toNat) && decide (c.toNat ≤ 57)
/-- What digits say. -/
def dval (l : List UInt8) : Nat := l.foldl (fun n c => n * 10 + (c.toNat - 48)) 0
theorem dval_app (l : List UInt8) (c : UInt8) : dval (l ++ [c]) = dval l * 10 + (c.toNat - 48) := by simp [dval]
theorem dig_nat {n : Nat} (h : n < 10) : (UInt8.ofNat (48 + n)).toNat = 48 + n := by
  rw [UInt8.toNat_ofNat']
  omega
theorem isd_nat {n : Nat} (h : n < 10) : isd (UInt8.ofNat (48 + n)) = true := by simp [isd, dig_nat h]; omega
theorem dec_val : ∀ n : Nat, dval (dec n) = n ∧ ∀ c ∈ dec n, isd c = true := by
  intro n
  induction n using Nat.strongRecOn with
  | ind n ih =>
    by_cases h : n < 10
    · rw [dec_small h]
      refine ⟨by have := dig_nat h; simp only [dval, List.foldl_cons, List.foldl_nil, this]; omega, fun c hc => ?_⟩
      rw [List.mem_singleton.1 hc]
      exact isd_nat h
    · obtain ⟨h1, h2⟩ := ih (n / 10) (by omega)
      rw [dec_big h]
      refine ⟨by rw [dval_app, h1, dig_nat (by omega)]; omega, fun c hc => ?_⟩
      rcases List.mem_append.1 hc with hc | hc
      · exact h2 c hc
      · rw [List.mem_singleton.1 hc]
        exact isd_nat (by omega)
theorem dec_head : ∀ n : Nat, n ≠ 0 → ∃ c r, dec n = c :: r ∧ c.toNat ≠ 48 := by
  intro n
  induction n using Nat.strongRecOn with
  | ind n ih =>
    intro hn
    by_cases h : n < 10
    · rw [dec_small h]
      exact ⟨_, [], rfl, by rw [dig_nat h]; omega⟩
    · obtain ⟨c, r, h1, h2⟩ := ih (n / 10) (by omega) (by omega)
      rw [dec_big h, h1]
      exact ⟨c, r ++ _, rfl, h2⟩
/-- Digits with no nought ahead are the digits of what they say. -/
theorem dec_of : ∀ (k : Nat) (l : List UInt8), l.length = k + 1 → (∀ c ∈ l, isd c = true) → (∀ c r, l = c :: r → c.toNat ≠ 48) → dec (dval l) = l ∧ dval l ≠ 0
  | 0, l, hl, hd, hh => by
    obtain ⟨c, rfl⟩ := List.length_eq_one_iff.1 hl
    have h1 := hd c (by simp)
    have h2 := hh c [] rfl
    simp only [isd, Bool.and_eq_true, decide_eq_true_eq] at h1
    have hv : dval [c] = c.toNat - 48 := by simp [dval]
    rw [hv, dec_small (by omega)]
    refine ⟨?_, by omega⟩
    congr 1
    apply UInt8.toNat_inj.1
    rw [dig_nat (by omega)]
    omega
  | k + 1, l, hl, hd, hh => by
    obtain ⟨r, c, rfl⟩ : ∃ r c, l = r ++ [c] := ⟨l.dropLast, l.getLast (by intro e; rw [e] at hl; simp at hl), (List.dropLast_concat_getLast _).symm⟩
    have hr : r.length = k + 1 := by simp at hl; omega
    have h1 := hd c (by simp)
    simp only [isd, Bool.and_eq_true, decide_eq_true_eq] at h1
    obtain ⟨i1, i2⟩ := dec_of k r hr (fun x hx => hd x (List.mem_append_left _ hx)) (fun x t ht => hh x (t ++ [c]) (by rw [ht]; rfl))
    have hv : dval (r ++ [c]) = dval r * 10 + (c.toNat - 48) := dval_app r c
    have hbig : ¬ dval (r ++ [c]) < 10 := by omega
    rw [dec_big hbig, hv]
    refine ⟨?_, by omega⟩
    rw [show (dval r * 10 + (c.toNat - 48)) / 10 = dval r by omega, show (dval r * 10 + (c.toNat - 48)) % 10 = c.toNat - 48 by omega, i1]
    congr 2
    apply UInt8.toNat_inj.1
    rw [dig_nat (by omega)]
    omega
theorem text_inj {a b : Int} (h : text a = text b) : a = b := by
  have hd : ∀ n : Nat, ∀ c ∈ dec n, c ≠ 45 := fun n c hc e => by
    have := (dec_val n).2 c hc
    subst e
    exact absurd this (by decide)
  have nn : ∀ n m : Nat, dec n ≠ 45 :: dec m := fun n m e => hd n 45 (by rw [e]; simp) rfl
  unfold text at h
  split at h <;> split at h
  · have := congrArg dval (List.cons.inj h).2
    rw [(dec_val _).1, (dec_val _).1] at this
    omega
  · exact absurd h.symm (nn _ _)
  · exact absurd h (nn _ _)
  · have := congrArg dval h
    rw [(dec_val _).1, (dec_val _).1] at this
    omega
end Go.Proofs.YtmjnepficndpfaaDoor.Dig
