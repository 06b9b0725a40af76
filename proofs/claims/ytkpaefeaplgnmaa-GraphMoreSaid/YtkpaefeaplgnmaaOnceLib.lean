/- Plain facts on edges: out of all nodes are all edges, each once. -/
import Derived.Test.YtkpaefeaplgnmaaGraphN
set_option linter.unusedSimpArgs false
set_option linter.unusedVariables false
namespace Go.Proofs.Ytkpaefeaplgnmaa.G
open Go.RowKit Go.Proofs.Ytkpaefeaplgnmaa.PA Go.Proofs.Ytkpaefeaplgnmaa.Mp Go.Proofs.YtkpaefeaplgnmaaW.PrintWords Go.Proofs.YtkpaefeaplgnmaaW.PrintLast Go.Proofs.YtkpaefeaplgnmaaW.PrintMore

theorem count_any (l : List S53) (p : S53 → Bool) (j : Nat) : (idxs l p).count (j : Int) = if (l[j]?).any p then 1 else 0 := by
  induction hl : l.length generalizing l with
  | zero => rw [List.length_eq_zero_iff.1 hl]; simp [idxs_nil]
  | succ k ih =>
    obtain ⟨l', e, rfl⟩ : ∃ l' e, l = l' ++ [e] := ⟨l.dropLast, l.getLast (by intro h; simp [h] at hl), (List.dropLast_concat_getLast _).symm⟩
    have hk : l'.length = k := by simpa using hl
    have := ih l' hk
    rw [idxs_snoc]
    rcases Nat.lt_trichotomy j l'.length with h | h | h
    · rw [List.getElem?_append_left h]
      have hne : ¬ ((l'.length : Int) = (j : Int)) := by omega
      by_cases hp : p e <;> simp [hp, this, List.count_singleton, hne]
    · subst h
      have h0 : (idxs l' p).count (l'.length : Int) = 0 := by rw [this]; simp
      by_cases hp : p e <;> simp [hp, h0, List.count_singleton]
    · have hne : ¬ ((l'.length : Int) = (j : Int)) := by omega
      have h0 : (idxs l' p).count (j : Int) = 0 := by rw [this, List.getElem?_eq_none (by omega)]; rfl
      rw [List.getElem?_eq_none (by simp; omega)]
      by_cases hp : p e <;> simp [hp, h0, List.count_singleton, hne]
theorem count_idxs (l : List S53) (p : S53 → Bool) (j : Nat) (h : j < l.length) : (idxs l p).count (j : Int) = if p l[j] then 1 else 0 := by
  rw [count_any, List.getElem?_eq_getElem h]
  rfl
/-- All edges that come, node by node. -/
def incsN (l : List S53) (k : Nat) : List Int := ((List.range k).map (fun v => rw_ l (.i v))).flatten
theorem incs_succ (l : List S53) (k : Nat) : incsN l (k + 1) = incsN l k ++ rw_ l (.i k) := by simp [incsN, List.range_succ]
theorem incs_len (l : List S53) (k : Nat) : (incsN l k).length ≤ k * l.length := by
  induction k with
  | zero => simp [incsN]
  | succ k ih =>
    rw [incs_succ, List.length_append, Nat.succ_mul]
    have := rw_len l (.i k)
    omega
theorem count_cols (l : List S53) (j : Nat) (h : j < l.length) (h0 : 0 ≤ l[j].f0) (k : Nat) : (colsN l k).count (j : Int) = if l[j].f0 < k then 1 else 0 := by
  induction k with
  | zero => simp [colsN]; omega
  | succ k ih =>
    rw [cols_succ, List.count_append, ih, rw_, count_idxs l _ j h]
    simp only [P_, beq_iff_eq]
    split <;> split <;> split <;> omega
theorem count_incs (l : List S53) (j : Nat) (h : j < l.length) (h0 : 0 ≤ l[j].f1) (k : Nat) : (incsN l k).count (j : Int) = if l[j].f1 < k then 1 else 0 := by
  induction k with
  | zero => simp [incsN]; omega
  | succ k ih =>
    rw [incs_succ, List.count_append, ih, rw_, count_idxs l _ j h]
    simp only [P_, beq_iff_eq]
    split <;> split <;> split <;> omega
/-- So many times a place has been told: leaving by one, coming by a hundred. -/
def tot (l : List S53) (v : Nat) (j : Nat) : Int := ((colsN l v).count (j : Int) : Int) + 100 * ((incsN l v).count (j : Int) : Int)
theorem tot_zero (l : List S53) (j : Nat) : tot l 0 j = 0 := by simp [tot, colsN, incsN]
theorem tot_succ (l : List S53) (v j : Nat) : tot l (v + 1) j = tot l v j + ((rw_ l (.o v)).count (j : Int) : Int) + 100 * ((rw_ l (.i v)).count (j : Int) : Int) := by
  unfold tot
  rw [cols_succ, incs_succ, List.count_append, List.count_append]
  omega
theorem tot_all (l : List S53) (n : Nat) (hf : Fits n l) (j : Nat) (h : j < l.length) : tot l n j = 101 := by
  have hx := hf.fit _ (List.getElem_mem h)
  unfold tot
  rw [count_cols l j h hx.1, count_incs l j h hx.2.2.1, if_pos hx.2.1, if_pos hx.2.2.2]
  rfl
theorem tot_le (l : List S53) (n v : Nat) (hf : Fits n l) (hv : v ≤ n) (j : Nat) : 0 ≤ tot l v j ∧ tot l v j ≤ 40000 := by
  have h1 := cols_len l v
  have h2 := incs_len l v
  have h3 : v * l.length ≤ 12 * 30 := Nat.mul_le_mul (by have := hf.top; omega) hf.few
  have h4 : (colsN l v).count (j : Int) ≤ (colsN l v).length := List.count_le_length
  have h5 : (incsN l v).count (j : Int) ≤ (incsN l v).length := List.count_le_length
  unfold tot
  omega
theorem idxs_len (l : List S53) (p : S53 → Bool) : (idxs l p).length = l.countP p := by
  induction hl : l.length generalizing l with
  | zero => rw [List.length_eq_zero_iff.1 hl]; rfl
  | succ k ih =>
    obtain ⟨l', e, rfl⟩ : ∃ l' e, l = l' ++ [e] := ⟨l.dropLast, l.getLast (by intro h; simp [h] at hl), (List.dropLast_concat_getLast _).symm⟩
    rw [idxs_snoc, List.countP_append]
    have := ih l' (by simpa using hl)
    by_cases hp : p e <;> simp [hp, this]
theorem countP_step (l : List S53) (k : Int) : l.countP (fun e => decide (e.f0 < k)) + l.countP (fun e => e.f0 == k) = l.countP (fun e => decide (e.f0 < k + 1)) := by
  induction l with
  | nil => rfl
  | cons e l ih =>
    simp only [List.countP_cons]
    have h : (if decide (e.f0 < k) = true then 1 else 0) + (if (e.f0 == k) = true then 1 else 0) = (if decide (e.f0 < k + 1) = true then 1 else 0 : Nat) := by
      rcases Int.lt_trichotomy e.f0 k with c | c | c
      · rw [if_pos (by simpa using c), if_neg (by simp; omega), if_pos (by simp; omega)]
      · rw [if_neg (by simp; omega), if_pos (by simpa using c), if_pos (by simp; omega)]
      · rw [if_neg (by simp; omega), if_neg (by simp; omega), if_neg (by simp; omega)]
    omega
theorem sum_one (l : List S53) (n : Nat) (hf : ∀ e ∈ l, 0 ≤ e.f0 ∧ e.f0 < n) : (colsN l n).length = l.length := by
  have key : ∀ k : Nat, (colsN l k).length = l.countP (fun e => decide (e.f0 < (k : Int))) := by
    intro k
    induction k with
    | zero =>
      symm
      simp only [colsN, List.range_zero, List.map_nil, List.flatten_nil, List.length_nil, List.countP_eq_zero]
      intro e he
      have := hf e he
      simp
      omega
    | succ k ih =>
      rw [cols_succ, List.length_append, ih, rw_, idxs_len]
      exact countP_step l k
  rw [key]
  exact List.countP_eq_length.2 (fun e he => by simpa using (hf e he).2)
/-- A row, cut out of all. -/
theorem cut_cols (l : List S53) (n v : Nat) (hv : v < n) : ((colsN l n).drop (colsN l v).length).take (rw_ l (.o v)).length = rw_ l (.o v) := by
  obtain ⟨d, rfl⟩ : ∃ d, n = v + 1 + d := ⟨n - (v + 1), by omega⟩
  have h : ∃ r, colsN l (v + 1 + d) = colsN l v ++ rw_ l (.o v) ++ r := by
    induction d with
    | zero => exact ⟨[], by rw [Nat.add_zero, cols_succ, List.append_nil]⟩
    | succ d ih =>
      obtain ⟨r, hr⟩ := ih (by omega)
      exact ⟨r ++ rw_ l (.o (v + 1 + d)), by rw [← Nat.add_assoc, cols_succ, hr, List.append_assoc]⟩
  obtain ⟨r, hr⟩ := h
  rw [hr, List.append_assoc, List.drop_left, List.take_left]
theorem rows_get (l : List S53) (n v : Nat) (hv : v < n) : (rowsN l n)[v]'(by rw [rows_len]; exact hv) = ((colsN l v).length : Int) := by simp [rowsN]

/-- Two rows of numbers are the same just if they are. -/
theorem same_l (a b : List Int) (hl : a.length = b.length) (hb : a.length ≤ 9223372036854775807) : ∀ (d k i : Nat), a.length - i = d → i ≤ a.length → d < k → reticuleref01_SameInts.l0 k a b (i : Int) = some (decide (a.drop i = b.drop i)) := by
  intro d
  induction d with
  | zero =>
    intro k i h0 h1 h2
    obtain ⟨k, rfl⟩ : ∃ m, k = m + 1 := ⟨k - 1, by omega⟩
    simp only [reticuleref01_SameInts.l0]
    rw [if_neg (by omega), List.drop_of_length_le (by omega), List.drop_of_length_le (by omega)]
    simp
  | succ d ih =>
    intro k i h0 h1 h2
    obtain ⟨k, rfl⟩ : ∃ m, k = m + 1 := ⟨k - 1, by omega⟩
    have hi : i < a.length := by omega
    simp only [reticuleref01_SameInts.l0]
    rw [if_pos (by omega), if_pos (by omega), if_pos (by omega)]
    have ha : rd a (i : Int) = a[i] := by simp [rd, hi]
    have hb' : rd b (i : Int) = b[i]'(by omega) := by simp [rd, show i < b.length by omega]
    rw [ha, hb', List.drop_eq_getElem_cons hi, List.drop_eq_getElem_cons (show i < b.length by omega)]
    by_cases e : a[i] = b[i]'(by omega)
    · rw [if_pos e, show wrap64 ((i : Int) + 1) = ((i + 1 : Nat) : Int) from by unfold wrap64; omega, ih k (i + 1) (by omega) (by omega) (by omega)]
      simp only [List.cons.injEq, e, true_and]
    · rw [if_neg e]
      simp only [List.cons.injEq, e, false_and, decide_false]
theorem same_ints (a b : List Int) (hb : a.length ≤ 9223372036854775807) : ∃ k, reticuleref01_SameInts.f k a b = some (decide (a = b)) := by
  refine ⟨a.length + 1, ?_⟩
  unfold reticuleref01_SameInts.f
  by_cases hl : a.length = b.length
  · rw [if_pos (by omega)]
    have := same_l a b hl hb a.length (a.length + 1) 0 (by omega) (by omega) (by omega)
    simpa using this
  · rw [if_neg (by omega)]
    have : a ≠ b := fun e => hl (by rw [e])
    simp [this]
end Go.Proofs.Ytkpaefeaplgnmaa.G
