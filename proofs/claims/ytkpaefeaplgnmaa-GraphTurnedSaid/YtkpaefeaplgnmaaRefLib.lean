/- Plain facts on what the document's graph answers. -/
import Derived.Test.YtkpaefeaplgnmaaLevLib
import Derived.Test.YtkpaefeaplgnmaaPAx3
set_option linter.unusedSimpArgs false
set_option linter.unusedVariables false
namespace Go.Proofs.Ytkpaefeaplgnmaa.G
open Go.RowKit Go.Proofs.Ytkpaefeaplgnmaa.PA Go.Proofs.Ytkpaefeaplgnmaa.Mp Go.Proofs.YtkpaefeaplgnmaaW.PrintWords Go.Proofs.YtkpaefeaplgnmaaW.PrintLast Go.Proofs.YtkpaefeaplgnmaaW.PrintMore

theorem rd53 {l : List S53} {i : Nat} (h : i < l.length) : rd_T53 l (i : Int) = l[i] := by simp [rd_T53, h]
theorem w64_succ {i : Nat} (h : i < 1000) : wrap64 ((i : Int) + 1) = ((i + 1 : Nat) : Int) := by unfold wrap64; omega
theorem idxs_len_le (l : List S53) (p : S53 → Bool) : (idxs l p).length ≤ l.length := by rw [idxs_len]; exact List.countP_le_length
theorem idxs_take (l : List S53) (p : S53 → Bool) (i : Nat) (h : i < l.length) : idxs (l.take (i + 1)) p = if p l[i] then idxs (l.take i) p ++ [(i : Int)] else idxs (l.take i) p := by
  rw [List.take_succ_eq_append_getElem h, idxs_snoc, List.length_take, Nat.min_eq_left (by omega)]
theorem ref_out (l : List S53) (n a : Int) (hl : l.length ≤ 100) : ∀ (d k i : Nat), l.length - i = d → i ≤ l.length → d < k → reticuleref03_Graph_Out.l0 k a (idxs (l.take i) (fun e => e.f0 == a)) (i : Int) n l = some (idxs l (fun e => e.f0 == a), n) := by
  intro d
  induction d with
  | zero =>
    intro k i h0 h1 h2
    obtain ⟨k, rfl⟩ : ∃ m, k = m + 1 := ⟨k - 1, by omega⟩
    simp only [reticuleref03_Graph_Out.l0, reticuleref03_Graph_M.f, Option.bind_some]
    rw [if_neg (by omega), List.take_of_length_le (by omega)]
  | succ d ih =>
    intro k i h0 h1 h2
    obtain ⟨k, rfl⟩ : ∃ m, k = m + 1 := ⟨k - 1, by omega⟩
    have hi : i < l.length := by omega
    have hle := idxs_len_le (l.take i) (fun e => e.f0 == a)
    rw [List.length_take] at hle
    simp only [reticuleref03_Graph_Out.l0, reticuleref03_Graph_M.f, Option.bind_some]
    rw [if_pos (by omega), if_pos (by omega), if_pos (by omega), rd53 hi, w64_succ (by omega)]
    have hn := ih k (i + 1) (by omega) (by omega) (by omega)
    rw [idxs_take l _ i hi] at hn
    by_cases e : l[i].f0 = a
    · rw [if_pos e, if_pos (by omega)]
      rw [if_pos (by simpa using e)] at hn
      exact hn
    · rw [if_neg e]
      rw [if_neg (by simpa using e)] at hn
      exact hn
theorem ref_in (l : List S53) (n a : Int) (hl : l.length ≤ 100) : ∀ (d k i : Nat), l.length - i = d → i ≤ l.length → d < k → reticuleref03_Graph_In.l0 k a (idxs (l.take i) (fun e => e.f1 == a)) (i : Int) n l = some (idxs l (fun e => e.f1 == a), n) := by
  intro d
  induction d with
  | zero =>
    intro k i h0 h1 h2
    obtain ⟨k, rfl⟩ : ∃ m, k = m + 1 := ⟨k - 1, by omega⟩
    simp only [reticuleref03_Graph_In.l0, reticuleref03_Graph_M.f, Option.bind_some]
    rw [if_neg (by omega), List.take_of_length_le (by omega)]
  | succ d ih =>
    intro k i h0 h1 h2
    obtain ⟨k, rfl⟩ : ∃ m, k = m + 1 := ⟨k - 1, by omega⟩
    have hi : i < l.length := by omega
    have hle := idxs_len_le (l.take i) (fun e => e.f1 == a)
    rw [List.length_take] at hle
    simp only [reticuleref03_Graph_In.l0, reticuleref03_Graph_M.f, Option.bind_some]
    rw [if_pos (by omega), if_pos (by omega), if_pos (by omega), rd53 hi, w64_succ (by omega)]
    have hn := ih k (i + 1) (by omega) (by omega) (by omega)
    rw [idxs_take l _ i hi] at hn
    by_cases e : l[i].f1 = a
    · rw [if_pos e, if_pos (by omega)]
      rw [if_pos (by simpa using e)] at hn
      exact hn
    · rw [if_neg e]
      rw [if_neg (by simpa using e)] at hn
      exact hn
theorem ref_between (l : List S53) (n a b : Int) (hl : l.length ≤ 100) : ∀ (d k i : Nat), l.length - i = d → i ≤ l.length → d < k → reticuleref03_Graph_Between.l0 k a b (idxs (l.take i) (fun e => e == ⟨a, b⟩)) (i : Int) n l = some (idxs l (fun e => e == ⟨a, b⟩), n) := by
  intro d
  induction d with
  | zero =>
    intro k i h0 h1 h2
    obtain ⟨k, rfl⟩ : ∃ m, k = m + 1 := ⟨k - 1, by omega⟩
    simp only [reticuleref03_Graph_Between.l0, reticuleref03_Graph_M.f, Option.bind_some]
    rw [if_neg (by omega), List.take_of_length_le (by omega)]
  | succ d ih =>
    intro k i h0 h1 h2
    obtain ⟨k, rfl⟩ : ∃ m, k = m + 1 := ⟨k - 1, by omega⟩
    have hi : i < l.length := by omega
    have hle := idxs_len_le (l.take i) (fun e => e == (⟨a, b⟩ : S53))
    rw [List.length_take] at hle
    simp only [reticuleref03_Graph_Between.l0, reticuleref03_Graph_M.f, Option.bind_some]
    rw [if_pos (by omega), if_pos (by omega), if_pos (by omega), rd53 hi, w64_succ (by omega)]
    have hn := ih k (i + 1) (by omega) (by omega) (by omega)
    rw [idxs_take l _ i hi] at hn
    by_cases e : l[i] = ⟨a, b⟩
    · rw [if_pos (by rw [e]), if_pos (by rw [e]), if_pos (by omega)]
      rw [if_pos (by simpa using e)] at hn
      exact hn
    · rw [if_neg (by simpa using e)] at hn
      by_cases e0 : l[i].f0 = a
      · rw [if_pos e0, if_neg (fun e1 => e (by cases h : l[i]; rw [h] at e0 e1; simp at e0 e1; rw [e0, e1]))]
        exact hn
      · rw [if_neg e0]
        exact hn
/-- Rows of a node that may be there or not. -/
theorem outs_idxs (l : List S53) (n : Nat) (v : Int) (hf : InB n l) : idxs l (fun e => e.f0 == v) = outs true n l v := by
  unfold outs
  by_cases h : 0 ≤ v ∧ v < n
  · rw [if_pos ⟨rfl, h⟩]
    unfold rw_ P_
    simp only [Int.toNat_of_nonneg h.1]
  · rw [if_neg (fun q => h q.2)]
    have : ∀ e ∈ l, (e.f0 == v) = false := fun e he => by
      have := hf e he
      simp
      omega
    rw [← List.length_eq_zero_iff, idxs_len]
    exact List.countP_eq_zero.2 (fun e he => by simp [this e he])
theorem ins_idxs (l : List S53) (n : Nat) (v : Int) (hf : InB n l) : idxs l (fun e => e.f1 == v) = ins true n l v := by
  unfold ins
  by_cases h : 0 ≤ v ∧ v < n
  · rw [if_pos ⟨rfl, h⟩]
    unfold rw_ P_
    simp only [Int.toNat_of_nonneg h.1]
  · rw [if_neg (fun q => h q.2)]
    have : ∀ e ∈ l, (e.f1 == v) = false := fun e he => by
      have := hf e he
      simp
      omega
    rw [← List.length_eq_zero_iff, idxs_len]
    exact List.countP_eq_zero.2 (fun e he => by simp [this e he])
theorem out_f (l : List S53) (n : Nat) (v : Int) (hf : InB n l) (hl : l.length ≤ 100) : ∃ K, ∀ k, K ≤ k → reticuleref03_Graph_Out.f k (n : Int) l v = some (outs true n l v, (n : Int)) := by
  refine ⟨l.length + 1, fun k hk => ?_⟩
  rw [← outs_idxs l n v hf]
  exact ref_out l n v hl l.length k 0 (by omega) (by omega) (by omega)
theorem in_f (l : List S53) (n : Nat) (v : Int) (hf : InB n l) (hl : l.length ≤ 100) : ∃ K, ∀ k, K ≤ k → reticuleref03_Graph_In.f k (n : Int) l v = some (ins true n l v, (n : Int)) := by
  refine ⟨l.length + 1, fun k hk => ?_⟩
  rw [← ins_idxs l n v hf]
  exact ref_in l n v hl l.length k 0 (by omega) (by omega) (by omega)
theorem between_f (l : List S53) (n : Nat) (a b : Int) (hl : l.length ≤ 100) : ∃ k, reticuleref03_Graph_Between.f k (n : Int) l a b = some (betw true l a b, (n : Int)) := by
  refine ⟨l.length + 1, ?_⟩
  have : betw true l a b = idxs l (fun e => e == ⟨a, b⟩) := by
    unfold betw rw_ P_
    rfl
  rw [this]
  exact ref_between l n a b hl l.length _ 0 (by omega) (by omega) (by omega)
/-- How many edges a node has. -/
def degs (live : Bool) (n : Nat) (l : List S53) (v : Int) (i : Bool) : Int := if i then ((ins live n l v).length : Int) else ((outs live n l v).length : Int)
theorem degree_f (l : List S53) (n : Nat) (v : Int) (i : Bool) (hf : InB n l) (hl : l.length ≤ 100) : ∃ k, reticuleref03_Graph_Degree.f k (n : Int) l v i = some (degs true n l v i, (n : Int)) := by
  cases i with
  | true =>
    obtain ⟨K, hk⟩ := in_f l n v hf hl
    refine ⟨K, ?_⟩
    unfold reticuleref03_Graph_Degree.f
    rw [if_pos rfl, hk K (Nat.le_refl _)]
    rfl
  | false =>
    obtain ⟨K, hk⟩ := out_f l n v hf hl
    refine ⟨K, ?_⟩
    unfold reticuleref03_Graph_Degree.f
    rw [if_neg (by decide), hk K (Nat.le_refl _)]
    rfl
theorem edge_f (l : List S53) (n : Nat) (i : Int) : reticuleref03_Graph_Edge.f (n : Int) l i = some ((edge true l i).1.f0, (edge true l i).1.f1, (edge true l i).2, (n : Int)) := by
  unfold reticuleref03_Graph_Edge.f edge
  simp only [reticuleref03_Graph_M.f, Option.bind_some]
  by_cases h0 : i < 0
  · rw [if_pos h0, if_neg (by omega)]
  · rw [if_neg h0]
    by_cases h1 : i ≥ (l.length : Int)
    · rw [if_pos h1, if_neg (by omega)]
    · rw [if_neg h1, if_pos (by omega), if_pos (by omega), if_pos ⟨trivial, by omega, by omega⟩]
      rfl
theorem outs_here (l : List S53) (n v : Nat) (h : v < n) : outs true n l (v : Int) = rw_ l (.o v) := by simp [outs, h]
theorem ref_rows (l : List S53) (n : Nat) (hf : InB n l) (hl : l.length ≤ 100) (hn : n ≤ 12) : ∀ (d i : Nat), n - i = d → i ≤ n → ∃ k, reticuleref03_Graph_Rows.l0 k (rowsN l i) (colsN l i) (i : Int) (n : Int) l = some (rowsN l (n + 1), colsN l n, (n : Int)) := by
  intro d
  induction d with
  | zero =>
    intro i h0 h1
    refine ⟨1, ?_⟩
    have hi : i = n := by omega
    subst hi
    have := rows_len l i
    simp only [reticuleref03_Graph_Rows.l0]
    rw [if_neg (by omega), if_pos (by omega), rows_succ]
  | succ d ih =>
    intro i h0 h1
    obtain ⟨k, hk⟩ := ih (i + 1) (by omega) (by omega)
    obtain ⟨K, hK⟩ := out_f l n (i : Int) hf hl
    refine ⟨max k K + 1, ?_⟩
    have h3 := rows_len l i
    have h4 := cols_len l i
    have h5 : i * l.length ≤ 12 * 100 := Nat.mul_le_mul (by omega) hl
    have h6 := rw_len l (.o i)
    simp only [reticuleref03_Graph_Rows.l0]
    rw [if_pos (by omega), if_pos (by omega), hK _ (Nat.le_max_right _ _), outs_here l n i (by omega)]
    simp only [Option.bind_some]
    rw [if_pos (by omega), ← rows_succ, ← cols_succ, w64_succ (by omega)]
    exact at_rounds (g := fun k => reticuleref03_Graph_Rows.l0 k (rowsN l (i + 1)) (colsN l (i + 1)) ((i + 1 : Nat) : Int) (n : Int) l) (fun k => reticuleref03_Graph_Rows.mono_l k _ _ _ _ _) (Nat.le_max_left _ _) hk
end Go.Proofs.Ytkpaefeaplgnmaa.G
