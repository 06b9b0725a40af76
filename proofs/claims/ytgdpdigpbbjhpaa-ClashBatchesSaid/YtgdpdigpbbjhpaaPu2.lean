/- Plain facts of clash: rows of acts, names sorted. -/
import Derived.Test.YtgdpdigpbbjhpaaPu1
set_option linter.unusedSimpArgs false
set_option linter.unusedVariables false
namespace Go.Proofs.Ytgdpdigpbbjhpaa.C
open Go.RowKit Go.Sort Go.Proofs.Ytgdpdigpbbjhpaa.PA Go.Proofs.Ytgdpdigpbbjhpaa.PB Go.Proofs.YtgdpdigpbbjhpaaW.PrintWords
theorem gr_stop {row l : List S39} {a : S39} (h : ¬ ((rgn [] (row ++ [a])).2 = 0 ∧ row.length + 1 ≤ 6)) : gr row (a :: l) = row :: gr [] (a :: l) := by
  rw [gr, if_neg h, gr_one]
theorem bat (L : Nat) : ∀ (x : List S39), x.length = L → (∀ a ∈ x, a.f1.size ≤ maxLen) → L ≤ 100 → ∀ (out : List (List S39)), out.length + L ≤ 1000 →
    (∀ (d n k : Nat), 7 - n = d → 1 ≤ n → n ≤ 6 → n ≤ L → 20 * (L - 1) + 1 + 2 * d ≤ k → clash_Batches.l1 k x out (n : Int) = some (out ++ gr (x.take n) (x.drop n))) ∧
    (∀ k, 20 * L + 1 ≤ k → clash_Batches.l0 k x out = some (out ++ gr [] x)) := by
  induction L using Nat.strongRecOn with
  | _ L ih =>
    intro x hx hs hL out ho
    have one : ∀ (d n k : Nat), 7 - n = d → 1 ≤ n → n ≤ 6 → n ≤ L → 20 * (L - 1) + 1 + 2 * d ≤ k → clash_Batches.l1 k x out (n : Int) = some (out ++ gr (x.take n) (x.drop n)) := by
      intro d
      induction d with
      | zero => intro n k h1 h2 h3; omega
      | succ d ihd =>
        intro n k h1 h2 h3 h4 hk
        obtain ⟨k, rfl⟩ : ∃ m, k = m + 2 := ⟨k - 2, by omega⟩
        have htn : (x.take n).length = n := by rw [List.length_take]; omega
        have hne : x.take n ≠ [] := fun e => by rw [e] at htn; simp at htn; omega
        have stop : (api_Act.f (x.take n)).bind (fun t => if out.length < 5864062014805 then clash_Batches.l0 k (x.drop n) (out ++ [t]) else none) = some (out ++ (x.take n :: gr [] (x.drop n))) := by
          rw [clone_f (by omega), Option.bind_some, if_pos (by omega)]
          have := (ih (L - n) (by omega) (x.drop n) (by rw [List.length_drop, hx]) (fun a ha => hs a (List.mem_of_mem_drop ha)) (by omega) (out ++ [x.take n]) (by simp; omega)).2 k (by omega)
          rw [this]
          simp
        have fin : clash_Batches.j2 (k + 1) x out (n : Int) false = some (out ++ (x.take n :: gr [] (x.drop n))) := by
          simp only [clash_Batches.j2]
          rw [if_neg (by simp), if_pos (by omega), if_pos (by omega), Int.toNat_natCast]
          exact stop
        simp only [clash_Batches.l1]
        by_cases hlt : n < L
        · rw [if_pos (by omega)]
          have hd : x.drop n = x[n] :: x.drop (n + 1) := List.drop_eq_getElem_cons (by omega)
          have htk : x.take (n + 1) = x.take n ++ [x[n]] := by rw [List.take_add_one, List.getElem?_eq_getElem (by omega)]; rfl
          by_cases h6 : n < 6
          · rw [show decide ((n : Int) < 6) = true from decide_eq_true (by omega)]
            simp only [clash_Batches.j2]
            rw [if_pos trivial, ww (by omega), if_pos (by omega), if_pos (by omega), Int.toNat_natCast, reg_f (fun a ha => hs a (List.mem_of_mem_take ha)), Option.bind_some]
            by_cases hr : (rgn [] (x.take (n + 1))).2 = 0
            · rw [if_pos hr, ihd (n + 1) k (by omega) (by omega) (by omega) (by omega) (by omega)]
              rw [hd, gr, if_pos ⟨by rw [← htk]; exact hr, by omega⟩, htk]
            · rw [if_neg hr, if_pos (by omega), if_pos (by omega), Int.toNat_natCast, stop, hd, gr_stop (row := x.take n)]
              rw [← htk]
              exact fun q => hr q.1
          · rw [show decide ((n : Int) < 6) = false from decide_eq_false (by omega), fin, hd, gr_stop (row := x.take n)]
            exact fun q => by have := q.2; omega
        · rw [if_neg (by omega), fin]
          have : x.drop n = [] := List.drop_eq_nil_of_le (by omega)
          rw [this, gr, gr, if_neg hne, if_pos rfl]
    refine ⟨one, fun k hk => ?_⟩
    obtain ⟨k, rfl⟩ : ∃ m, k = m + 1 := ⟨k - 1, by omega⟩
    simp only [clash_Batches.l0]
    cases x with
    | nil => simp [gr]
    | cons a x =>
      rw [if_pos (by simp)]
      have hL1 : 1 ≤ L := by rw [← hx]; simp
      have := one 6 1 k rfl (by omega) (by omega) hL1 (by omega)
      rw [show ((1 : Nat) : Int) = 1 from rfl] at this
      rw [this, gr_one]
      rfl
theorem bat_f (l : List S39) (hl : l.length ≤ 30) (hs : ∀ a ∈ l, a.f1.size ≤ maxLen) (k : Nat) (hk : 1000 ≤ k) : clash_Batches.f k l = some (gr [] l) := by
  unfold clash_Batches.f
  rw [(bat l.length l rfl hs (by omega) [] (by simp; omega)).2 k (by omega)]
  rfl
theorem rbat (l : List S39) (hl : l.length ≤ 30) : ∀ (d i k : Nat) (out : List (List S39)) (row : List S39), l.length - i = d → i ≤ l.length → 1001 + d ≤ k → out.length ≤ i → row.length ≤ 6 →
    reticuleref12_Batches.l0 k l out row (i : Int) = some (out ++ gr row (l.drop i)) := by
  intro d
  induction d with
  | zero =>
    intro i k out row h1 h2 h3 ho hr
    obtain ⟨k, rfl⟩ : ∃ m, k = m + 1 := ⟨k - 1, by omega⟩
    obtain rfl : i = l.length := by omega
    simp only [reticuleref12_Batches.l0]
    rw [if_neg (by omega), List.drop_length, gr]
    cases row with
    | nil => simp
    | cons a row =>
      rw [if_pos (by simp), Option.bind_some, if_pos (by simp; omega), if_neg (by simp)]
  | succ d ih =>
    intro i k out row h1 h2 h3 ho hr
    have hi : i < l.length := by omega
    obtain ⟨k, rfl⟩ : ∃ m, k = m + 1 := ⟨k - 1, by omega⟩
    simp only [reticuleref12_Batches.l0]
    rw [if_pos (by omega), Option.bind_some, if_pos (by simp; omega), Option.bind_some, if_pos (by omega), Option.bind_some, if_pos (by simp; omega), Option.bind_some, List.nil_append, rdT hi, ww (by omega)]
    rw [show ([(⟨l[i].f0, l[i].f1, l[i].f2, l[i].f3, l[i].f4, l[i].f5⟩ : S39)] : List S39) = [l[i]] from rfl]
    rw [rregion_f (row ++ [l[i]]) (by simp; omega) k (by omega), Option.bind_some, List.drop_eq_getElem_cons hi, gr]
    by_cases hz : (rgn [] (row ++ [l[i]])).2 = 0
    · rw [if_pos hz]
      by_cases h6 : row.length + 1 ≤ 6
      · rw [if_neg (by simp; omega), if_pos ⟨hz, h6⟩]
        exact ih (i + 1) k out _ (by omega) (by omega) (by omega) (by omega) (by simp; omega)
      · rw [if_pos (by simp; omega), if_neg (fun q => h6 q.2), Option.bind_some, if_pos (by simp; omega)]
        rw [ih (i + 1) k _ _ (by omega) (by omega) (by omega) (by simp; omega) (by simp)]
        simp
    · rw [if_neg hz, if_neg (fun q => hz q.1), Option.bind_some, if_pos (by simp; omega)]
      rw [ih (i + 1) k _ _ (by omega) (by omega) (by omega) (by simp; omega) (by simp)]
      simp
theorem rbat_f (l : List S39) (hl : l.length ≤ 30) (k : Nat) (hk : 1100 ≤ k) : reticuleref12_Batches.f k l = some (gr [] l) := by
  unfold reticuleref12_Batches.f
  have := rbat l hl l.length 0 k [] [] (by omega) (by omega) (by omega) (by simp) (by simp)
  simpa using this
/-! The same -/
theorem stex (l : List ByteArray) (hl : l.length ≤ 1000) : ∀ (d i k : Nat), i + d = l.length → d < k → reticuleref12_SameTexts.l0 k l l (i : Int) = some true := by
  intro d
  induction d with
  | zero =>
    intro i k h hk
    obtain ⟨k, rfl⟩ : ∃ m, k = m + 1 := ⟨k - 1, by omega⟩
    simp only [reticuleref12_SameTexts.l0]
    rw [if_neg (by omega)]
  | succ d ih =>
    intro i k h hk
    obtain ⟨k, rfl⟩ : ∃ m, k = m + 1 := ⟨k - 1, by omega⟩
    simp only [reticuleref12_SameTexts.l0]
    rw [if_pos (by omega), if_pos (by omega), if_pos (by omega), if_pos trivial, ww (by omega)]
    exact ih (i + 1) k (by omega) (by omega)
theorem stex_f (l : List ByteArray) (hl : l.length ≤ 1000) (k : Nat) (hk : 1100 ≤ k) : reticuleref12_SameTexts.f k l l = some true := by
  unfold reticuleref12_SameTexts.f
  rw [if_pos rfl]
  exact stex l hl l.length 0 k (by omega) (by omega)
theorem rdL {l : List (List S39)} {i : Nat} (h : i < l.length) : rd_L5 l (i : Int) = l[i] := by unfold rd_L5; simp [List.getD_eq_getElem?_getD, h]
def tot (l : List (List S39)) : Nat := (l.map List.length).sum
theorem srow (l : List (List S39)) (hl : l.length ≤ 1000) (ht : ∀ r ∈ l, r.length ≤ 1000) : ∀ (d i : Nat), i + d = l.length → ∀ k, d + 2 * tot (l.drop i) + d + 1 ≤ k → reticuleref12_SameRows.l0 k l l (i : Int) = some true := by
  intro d
  induction d with
  | zero =>
    intro i h k hk
    obtain ⟨k, rfl⟩ : ∃ m, k = m + 1 := ⟨k - 1, by omega⟩
    simp only [reticuleref12_SameRows.l0]
    rw [if_neg (by omega)]
  | succ d ih =>
    intro i h k hk
    have hi : i < l.length := by omega
    have htt : tot (l.drop i) = l[i].length + tot (l.drop (i + 1)) := by unfold tot; rw [List.drop_eq_getElem_cons hi, List.map_cons, List.sum_cons]
    have hr := ht l[i] (List.getElem_mem hi)
    obtain ⟨k, rfl⟩ : ∃ m, k = m + 1 := ⟨k - 1, by omega⟩
    simp only [reticuleref12_SameRows.l0]
    rw [if_pos (by omega), if_pos (by omega), if_pos (by omega), if_pos trivial]
    have inner : ∀ (e j m : Nat), j + e = l[i].length → e + (d + 2 * tot (l.drop (i + 1)) + d + 1) + 1 ≤ m → reticuleref12_SameRows.l1 m l l (i : Int) (j : Int) = some true := by
      intro e
      induction e with
      | zero =>
        intro j m hj hm
        obtain ⟨m, rfl⟩ : ∃ q, m = q + 1 := ⟨m - 1, by omega⟩
        simp only [reticuleref12_SameRows.l1]
        rw [if_pos (by omega), if_pos (by omega), rdL hi, if_neg (by omega), ww (by omega)]
        exact ih (i + 1) (by omega) m (by omega)
      | succ e ihe =>
        intro j m hj hm
        obtain ⟨m, rfl⟩ : ∃ q, m = q + 1 := ⟨m - 1, by omega⟩
        simp only [reticuleref12_SameRows.l1]
        rw [if_pos (by omega), if_pos (by omega), rdL hi, if_pos (by omega), if_pos (by omega), if_pos (by omega), if_pos (by omega), if_neg (by simp), ww (by omega)]
        exact ihe (j + 1) m (by omega) (by omega)
    exact inner l[i].length 0 k (by omega) (by omega)
theorem gr_len : ∀ (l row : List S39), (gr row l).length ≤ 1 + l.length
  | [], row => by rw [gr]; split <;> simp
  | a :: l, row => by
    rw [gr]
    split
    · have := gr_len l (row ++ [a]); simp; omega
    · have := gr_len l [a]; simp; omega
theorem gr_row : ∀ (l row : List S39), row.length ≤ 6 → ∀ r ∈ gr row l, r.length ≤ 6
  | [], row, h, r, hr => by
    rw [gr] at hr
    split at hr
    · simp at hr
    · rw [List.mem_singleton.1 hr]; exact h
  | a :: l, row, h, r, hr => by
    rw [gr] at hr
    split at hr
    · rename_i q
      exact gr_row l _ (by simp; omega) r hr
    · rcases List.mem_cons.1 hr with rfl | hr
      · exact h
      · exact gr_row l [a] (by simp) r hr
theorem tot_le : ∀ (l : List (List S39)), (∀ r ∈ l, r.length ≤ 6) → tot l ≤ 6 * l.length
  | [], _ => by simp [tot]
  | r :: l, h => by
    have h1 := h r List.mem_cons_self
    have h2 := tot_le l (fun q hq => h q (List.mem_cons_of_mem _ hq))
    unfold tot at h2 ⊢
    simp
    omega
theorem srow_f (l : List (List S39)) (hl : l.length ≤ 31) (hr : ∀ r ∈ l, r.length ≤ 6) (k : Nat) (hk : 1100 ≤ k) : reticuleref12_SameRows.f k l l = some true := by
  unfold reticuleref12_SameRows.f
  rw [if_pos rfl]
  have h2 := tot_le l hr
  exact srow l (by omega) (fun r h => by have := hr r h; omega) l.length 0 (by omega) k (by simp; omega)
end Go.Proofs.Ytgdpdigpbbjhpaa.C
