/- Plain facts of clash: rows that are told, one behind the other. -/
import Derived.Test.YtgdpdigpbbjhpaaTn
set_option linter.unusedSimpArgs false
set_option linter.unusedVariables false
namespace Go.Proofs.Ytgdpdigpbbjhpaa.C
open Go.RowKit Go.Sort Go.Proofs.Ytgdpdigpbbjhpaa.PA Go.Proofs.Ytgdpdigpbbjhpaa.PB Go.Proofs.YtgdpdigpbbjhpaaW.PrintWords Go.Proofs.YtgdpdigpbbjhpaaW.PrintLast
/-- Each row is one that may be; with the next one's first it might not. -/
def Gd : List (List S39) → Prop
  | [] => True
  | r :: t => (Pw r ∧ 1 ≤ r.length ∧ r.length ≤ 6) ∧ (r.length < 6 → ∀ a s, t.head? = some (a :: s) → ¬ Pw (r ++ [a])) ∧ Gd t
theorem gr_flat : ∀ (l row : List S39), (gr row l).flatten = row ++ l
  | [], row => by
    rw [gr]
    split
    · rename_i h; simp [h]
    · simp
  | a :: l, row => by
    rw [gr]
    split
    · rw [gr_flat l]; simp
    · rw [List.flatten_cons, gr_flat l]; simp
theorem gr_head : ∀ (l row : List S39), row ≠ [] → ∃ t, (gr row l).head? = some (row ++ t)
  | [], row, h => ⟨[], by rw [gr, if_neg h]; simp⟩
  | a :: l, row, h => by
    rw [gr]
    split
    · obtain ⟨t, ht⟩ := gr_head l (row ++ [a]) (by simp)
      exact ⟨a :: t, by rw [ht]; simp⟩
    · exact ⟨[], by simp⟩
theorem gr_good : ∀ (l row : List S39), row ≠ [] → Pw row → row.length ≤ 6 → Gd (gr row l)
  | [], row, h, hp, h6 => by
    rw [gr, if_neg h]
    exact ⟨⟨hp, List.length_pos_iff.2 h, h6⟩, fun _ a s q => by simp at q, trivial⟩
  | a :: l, row, h, hp, h6 => by
    rw [gr]
    by_cases q : (rgn [] (row ++ [a])).2 = 0 ∧ row.length + 1 ≤ 6
    · rw [if_pos q]
      exact gr_good l _ (by simp) ((pw_iff _).1 q.1) (by simp; omega)
    · rw [if_neg q]
      refine ⟨⟨hp, List.length_pos_iff.2 h, h6⟩, fun hlt b s hb => ?_, gr_good l [a] (by simp) (List.pairwise_singleton _ _) (by simp)⟩
      obtain ⟨t, ht⟩ := gr_head l [a] (by simp)
      rw [ht] at hb
      simp at hb
      rw [← hb.1]
      exact fun hpw => q ⟨(pw_iff _).2 hpw, by omega⟩
theorem gr_nil (l : List S39) : Gd (gr [] l) := by
  cases l with
  | nil => rw [gr]; exact trivial
  | cons a l => rw [gr_one]; exact gr_good l [a] (by simp) (List.pairwise_singleton _ _) (by simp)
theorem own_step {P : Program} {ops : Array Oper} {o : Oper} {a : Act} {K : Act → World → Prop} {Q : Exit → Act → World → Prop} {W : World} {X : Prop} (hw : Region.wanted o (yielded ops a.tmps) = true) (h : Oper.wp P o a W K Q) :
    if Region.wanted o (yielded ops a.tmps) = true then Oper.wp P o a W K Q else X := by
  rw [if_pos hw]; exact h
/-- What is known behind the first three. -/
structure FF (wz w' : World) (r : List S39) (cells : Array Value) (v : Value) (b : Nat) : Prop where
  bl : Below wz.heap.size wz w'
  own : Kd.R k39 39 w' wz.heap.size (fun _ => True) v r
  box : w'.heap[b]? = some (.cells cells 39 (0, 0))
theorem box_reads {w : World} {b : Nat} {a : S39} (h : w.heap[b]? = some (.cells #[.int .u8 a.f0, .string a.f1, .int .u8 a.f2, .bool a.f3, .int .i64 a.f4, .int .i64 a.f5] 39 (0, 0))) : ReadsRow (Kd.K k39 w) 6 w (some ⟨b, 0, none⟩) 1 [a] := by
  refine ⟨rfl, by omega, fun _ => ⟨_, rfl, fun j p hj => ?_⟩⟩
  have hj0 : j = 0 := by
    have := (List.getElem?_eq_some_iff.1 hj).1
    simp at this; omega
  subst hj0
  have hp : p = a := by simpa using hj.symm
  subst hp
  refine ⟨_, rfl, k39_mk w p, fun i u hu => ?_⟩
  rw [add_plain, blk_cell h, Nat.zero_mul, Nat.zero_add]
  rw [← Array.getElem?_toList]
  exact hu
theorem box0_step {ops : Array Oper} {Q : Exit → Act → World → Prop} {o : Oper} {N : Option Tmp} {a : Act} {w : World} {K : Act → World → Prop} (hw : Region.wanted o (yielded ops a.tmps) = true) (hN : o.dst = N) (hg : o.guard = none) (hop : o.op = .buildSlice 22 0 #[])
    (h : ∀ B w', w.heap.size ≤ B → B < w'.heap.size → Kd.R k39 39 w' w.heap.size (fun _ => True) (.slice (some ⟨B, 0, none⟩) 0 0) [] → Below w.heap.size w w' → K (a.put N (.slice (some ⟨B, 0, none⟩) 0 0)) w') :
    if Region.wanted o (yielded ops a.tmps) = true then Oper.wp Try.prog o a w K Q else K (a.put N undef) w := by
  refine value_ (w1 := w.alloc (.cells #[] 39)) (v := .slice (some ⟨w.heap.size, 0, none⟩) 0 0) hw hN ?_ (h _ _ (Nat.le_refl _) (by simp) (R_empty k39 39 w w.heap.size (Nat.le_refl _)) (below_alloc (Below.refl _ _) _))
  cases o
  simp only at hop
  subst hop
  go_simp
theorem box1_step {ops : Array Oper} {Q : Exit → Act → World → Prop} {o : Oper} {N : Option Tmp} {a : Act} {w : World} {K : Act → World → Prop} (x : S39) (q : Nat) (hw : Region.wanted o (yielded ops a.tmps) = true) (hN : o.dst = N) (hg : o.guard = none) (hop : o.op = .buildSlice 22 1 #[(0, .tmp q)]) (hx : a.tmps[q]? = some (.agg #[.int .u8 x.f0, .string x.f1, .int .u8 x.f2, .bool x.f3, .int .i64 x.f4, .int .i64 x.f5]))
    (h : ∀ B w', w.heap.size ≤ B → B < w'.heap.size → w'.heap[B]? = some (.cells #[.int .u8 x.f0, .string x.f1, .int .u8 x.f2, .bool x.f3, .int .i64 x.f4, .int .i64 x.f5] 39 (0, 0)) → Below w.heap.size w w' → K (a.put N (.slice (some ⟨B, 0, none⟩) 1 1)) w') :
    if Region.wanted o (yielded ops a.tmps) = true then Oper.wp Try.prog o a w K Q else K (a.put N undef) w := by
  refine value_ (w1 := w.alloc (.cells #[.int .u8 x.f0, .string x.f1, .int .u8 x.f2, .bool x.f3, .int .i64 x.f4, .int .i64 x.f5] 39)) (v := .slice (some ⟨w.heap.size, 0, none⟩) 1 1) hw hN ?_ (h _ _ (Nat.le_refl _) (by simp) (World.alloc_heap_new _ _) (below_alloc (Below.refl _ _) _))
  cases o
  simp only at hop
  subst hop
  go_simp
end Go.Proofs.Ytgdpdigpbbjhpaa.C
