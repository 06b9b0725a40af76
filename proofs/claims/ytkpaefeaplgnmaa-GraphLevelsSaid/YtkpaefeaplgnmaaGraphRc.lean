/- The walks of graph: which nodes ways lead to. -/
import Derived.Test.YtkpaefeaplgnmaaGraphRb
set_option linter.unusedSimpArgs false
set_option linter.unusedVariables false
namespace Go.Proofs.Ytkpaefeaplgnmaa.G
open Go.RowKit Go.Shelf Go.Proofs.Ytkpaefeaplgnmaa.PA Go.Proofs.Ytkpaefeaplgnmaa.Mp Go.Proofs.YtkpaefeaplgnmaaW.PrintWords Go.Proofs.YtkpaefeaplgnmaaW.PrintLast Go.Proofs.YtkpaefeaplgnmaaW.PrintMore

/-- A way leads from a to b. -/
inductive Way (l : List S53) (a : Nat) : Nat → Prop
  | one {b : Nat} : b ∈ nxt l a → Way l a b
  | more {b c : Nat} : Way l a b → c ∈ nxt l b → Way l a c
open Classical in
/-- To which nodes ways lead. -/
noncomputable def ways (l : List S53) (n a : Nat) : List Bool := (List.range n).map fun b => decide (Way l a b)
theorem ways_iff {l : List S53} {n a b : Nat} : (ways l n a).getD b false = true ↔ b < n ∧ Way l a b := by
  unfold ways
  by_cases hb : b < n
  · simp [List.getD_eq_getElem?_getD, hb]
  · simp [List.getD_eq_getElem?_getD, hb]
def cf (r : List Bool) : Nat := r.countP (· == false)
theorem cf_le (r : List Bool) : cf r ≤ r.length := List.countP_le_length
theorem cf_set {r : List Bool} {b : Nat} (hb : b < r.length) (h : r.getD b false = false) : cf (r.set b true) + 1 = cf r := by
  induction r generalizing b with
  | nil => simp at hb
  | cons x r ih =>
    cases b with
    | zero =>
      have hx : x = false := h
      subst hx
      simp [cf]
    | succ b =>
      have := ih (b := b) (by simpa using hb) (by simpa using h)
      simp only [List.set_cons_succ, cf, List.countP_cons] at this ⊢
      omega
theorem nxt_len (l : List S53) (v : Nat) : (nxt l v).length ≤ l.length := by
  unfold nxt
  rw [List.length_map]
  exact rw_len l (.o v)
/-- What holds while nodes are looked for. -/
structure Sk (l : List S53) (n a : Nat) (r : List Bool) (todo : List Nat) : Prop where
  len : r.length = n
  mark : ∀ b, r.getD b false = true → Way l a b
  wait : ∀ b ∈ todo, Way l a b ∧ b < n
  first : ∀ c ∈ nxt l a, r.getD c false = true ∨ c ∈ todo
  next : ∀ b, r.getD b false = true → ∀ c ∈ nxt l b, r.getD c false = true ∨ c ∈ todo
  sum : todo.length + 30 * cf r ≤ 390
theorem Sk.start {l : List S53} {n a : Nat} (h12 : n ≤ 12) (h30 : l.length ≤ 30) (hn : ∀ v, ∀ x ∈ nxt l v, x < n) : Sk l n a (List.replicate n false) (nxt l a) := by
  have hf : ∀ b, (List.replicate n false).getD b false = false := fun b => by
    rw [List.getD_eq_getElem?_getD, List.getElem?_replicate]
    split <;> rfl
  refine ⟨by simp, fun b h => (by rw [hf] at h; cases h), fun b hb => ⟨.one hb, hn _ _ hb⟩, fun c hc => .inr hc, fun b h => (by rw [hf] at h; cases h), ?_⟩
  have h1 := nxt_len l a
  have h2 := cf_le (List.replicate n false)
  rw [List.length_replicate] at h2
  omega
theorem Sk.skip {l : List S53} {n a b : Nat} {r : List Bool} {t : List Nat} (h : Sk l n a r (b :: t)) (hb : r.getD b false = true) : Sk l n a r t := by
  have go : ∀ c, r.getD c false = true ∨ c ∈ b :: t → r.getD c false = true ∨ c ∈ t := fun c hc => by
    rcases hc with hc | hc
    · exact .inl hc
    · rcases List.mem_cons.1 hc with rfl | hc
      · exact .inl hb
      · exact .inr hc
  exact ⟨h.len, h.mark, fun x hx => h.wait x (List.mem_cons_of_mem _ hx), fun c hc => go c (h.first c hc), fun x hx c hc => go c (h.next x hx c hc), by have := h.sum; simp only [List.length_cons] at this; omega⟩
theorem getD_set (r : List Bool) (b c : Nat) : (r.set b true).getD c false = if c = b ∧ b < r.length then true else r.getD c false := by
  simp only [List.getD_eq_getElem?_getD, List.getElem?_set]
  by_cases e : b = c
  · subst e
    by_cases hb : b < r.length
    · simp [hb]
    · simp [hb]
  · rw [if_neg e, if_neg (fun q => e q.1.symm)]
theorem Sk.take {l : List S53} {n a b : Nat} {r : List Bool} {t : List Nat} (h : Sk l n a r (b :: t)) (hb : r.getD b false = false) (h30 : l.length ≤ 30) (hn : ∀ v, ∀ x ∈ nxt l v, x < n) : Sk l n a (r.set b true) (t ++ nxt l b) ∧ cf (r.set b true) + 1 = cf r := by
  obtain ⟨hw, hbn⟩ := h.wait b List.mem_cons_self
  have hlt : b < r.length := by rw [h.len]; exact hbn
  have hc1 := cf_set hlt hb
  have go : ∀ c, r.getD c false = true ∨ c ∈ b :: t → (r.set b true).getD c false = true ∨ c ∈ t ++ nxt l b := fun c hc => by
    rw [getD_set]
    by_cases e : c = b
    · exact .inl (if_pos ⟨e, hlt⟩)
    · rw [if_neg (fun q => e q.1)]
      rcases hc with hc | hc
      · exact .inl hc
      · rcases List.mem_cons.1 hc with rfl | hc
        · exact absurd rfl e
        · exact .inr (List.mem_append_left _ hc)
  refine ⟨⟨by rw [List.length_set]; exact h.len, fun x hx => ?_, fun x hx => ?_, fun c hc => go c (h.first c hc), fun x hx c hc => ?_, ?_⟩, hc1⟩
  · rw [getD_set] at hx
    split at hx
    · rename_i e
      rw [e.1]; exact hw
    · exact h.mark x hx
  · rcases List.mem_append.1 hx with hx | hx
    · exact h.wait x (List.mem_cons_of_mem _ hx)
    · exact ⟨.more hw hx, hn _ _ hx⟩
  · rw [getD_set] at hx
    split at hx
    · rename_i e
      rw [e.1] at hc
      exact .inr (List.mem_append_right _ hc)
    · exact go c (h.next x hx c hc)
  · have := h.sum
    have h1 := nxt_len l b
    simp only [List.length_cons] at this
    rw [List.length_append]
    omega
theorem Sk.done {l : List S53} {n a : Nat} {r : List Bool} (h : Sk l n a r []) : r = ways l n a := by
  have key : ∀ b, Way l a b → r.getD b false = true := fun b hw => by
    induction hw with
    | one hc => exact (h.first _ hc).resolve_right (by simp)
    | more _ hc ih => exact (h.next _ ih _ hc).resolve_right (by simp)
  have hl : (ways l n a).length = n := by simp [ways]
  apply List.ext_getElem
  · rw [hl, h.len]
  · intro b h1 h2
    have e : ∀ (x : List Bool) (hx : b < x.length), x.getD b false = x[b] := fun x hx => by rw [List.getD_eq_getElem?_getD, List.getElem?_eq_getElem hx]; rfl
    rw [← e _ h1, ← e _ h2]
    apply Bool.eq_iff_iff.2
    rw [ways_iff]
    exact ⟨fun q => ⟨by omega, h.mark b q⟩, fun q => key b q.2⟩

theorem Q_pop {W : World} {b : Nat} {ok : Nat → Prop} {u : Nat} {t : List Nat} {A : Option Addr} {cap : Nat} (hq : Kd.Q (Kd.int .i64) 3 W b ok (.slice A (t.length + 1) cap) (qs (u :: t))) : ∃ (gq oq : Nat) (A' : Option Addr), A = some ⟨gq, oq, none⟩ ∧ W.cell? ⟨gq, oq, none⟩ = some (.int .i64 (u : Int)) ∧
    (∀ X : World, (Instr.slice 27 (.slice A (t.length + 1) cap) (some (.int .i64 1)) none none).run Try.prog X = .ok (.slice A' t.length (cap - 1)) X) ∧ Kd.Q (Kd.int .i64) 3 W b ok (.slice A' t.length (cap - 1)) (qs t) := by
  obtain ⟨i3, hi3, z3, s3, b3⟩ := info_parts info3'
  have hcut := cut_from (P := Try.prog) 27 3 .i64 Try.underlying27 hi3 1 s3 A (t.length + 1) cap 1 (by decide) (by omega)
  have hql : (qs (u :: t)).length = t.length + 1 := by simp [qs]
  have hd := Kd.Q_drop hq (k := 1) (by rw [hql]; omega)
  rw [show (Kd.int .i64).sz = 1 from rfl] at hd
  rw [show (1 : Int).toNat = 1 from rfl, Nat.add_sub_cancel] at hcut
  rw [Nat.add_sub_cancel] at hd
  have ht : (qs (u :: t)).drop 1 = qs t := rfl
  rw [ht] at hd
  obtain ⟨gq, oq, cap', e, _, _, _⟩ := Kd.Q_form hq (by simp [qs])
  injection e with e1 e2 e3
  subst e1
  have hC := (Kd.Q_reads' hq).2.2
  rw [hql] at hC
  obtain ⟨ad, ea, hc⟩ := int_at (i := 0) hC (by simp [qs])
  injection ea with ea
  refine ⟨gq, oq, _, rfl, ?_, hcut, hd⟩
  rw [← ea] at hc
  simpa [qs, Addr.add] using hc

/-- The rows, the first a of them told. -/
theorem Rw.cellRow {w0 W : World} {go n i : Nat} {gi : Nat → Nat} {R : Nat → List Bool} (h : Rw w0 W go n i gi R) {v : Nat} (hv : v < i) (hin : i ≤ n) : W.cell? ⟨go, v, none⟩ = some (.slice (some ⟨gi v, 0, none⟩) n n) := by
  rw [cell_of h.ot]
  simp [show v < n by omega, hv]
theorem Rw.cellBit {w0 W : World} {go n i : Nat} {gi : Nat → Nat} {R : Nat → List Bool} (h : Rw w0 W go n i gi R) {v b : Nat} (hv : v < i) (hb : b < n) : W.cell? ⟨gi v, b, none⟩ = some (.bool ((R v).getD b false)) ∧ W.frozen? ⟨gi v, b, none⟩ = false := by
  obtain ⟨h1, h2, _⟩ := h.it v hv
  refine ⟨?_, by simp [World.frozen?, h1]⟩
  rw [cell_of h1]
  simp [show b < (R v).length by omega]
theorem Rw.set {w0 W : World} {go n i : Nat} {gi : Nat → Nat} {R : Nat → List Bool} (h : Rw w0 W go n i gi R) {v b : Nat} (hv : v < i) : Rw w0 (W.setCell ⟨gi v, b, none⟩ (.bool true)) go n i gi (fun x => if x = v then (R v).set b true else R x) := by
  obtain ⟨h1, h2, h3⟩ := h.it v hv
  refine ⟨set_far h.ot (cells_ne h.ot h1 (by decide)), fun x hx => ?_, h.ne, h.ago, h.bl.setCell (p := ⟨gi v, b, none⟩) h3 _⟩
  obtain ⟨q1, q2, q3⟩ := h.it x hx
  by_cases e : x = v
  · subst e
    rw [if_pos rfl]
    refine ⟨?_, by rw [List.length_set]; exact h2, h3⟩
    rw [heap_setCell_same W (gi x) b _ 4 _ h1, List.setIfInBounds_toArray]
    simp [List.map_set]
  · rw [if_neg e]
    exact ⟨set_far q1 (h.ne x v hx hv e), q2, q3⟩
theorem Rw.kept {w0 W W' : World} {go n i : Nat} {gi : Nat → Nat} {R : Nat → List Bool} (h : Rw w0 W go n i gi R) (hk : ∀ k, k < W.heap.size → (k = go ∨ ∃ v, v < i ∧ k = gi v) → W'.heap[k]? = W.heap[k]?) (hb : Below w0.heap.size w0 W') : Rw w0 W' go n i gi R :=
  ⟨(hk go (Array.getElem?_eq_some_iff.1 h.ot).1 (.inl rfl)).trans h.ot, fun v hv => ⟨(hk _ (Array.getElem?_eq_some_iff.1 (h.it v hv).1).1 (.inr ⟨v, hv, rfl⟩)).trans (h.it v hv).1, (h.it v hv).2⟩, h.ne, h.ago, hb⟩
theorem Rw.congr {w0 W : World} {go n i : Nat} {gi : Nat → Nat} {R R' : Nat → List Bool} (h : Rw w0 W go n i gi R) (e : ∀ v, v < i → R v = R' v) : Rw w0 W go n i gi R' :=
  ⟨h.ot, fun v hv => by rw [← e v hv]; exact h.it v hv, h.ne, h.ago, h.bl⟩
end Go.Proofs.Ytkpaefeaplgnmaa.G
