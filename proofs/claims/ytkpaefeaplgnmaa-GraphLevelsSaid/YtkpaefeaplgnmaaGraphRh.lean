/- Plain laws: levels, ways, and what hangs together. -/
import Derived.Test.YtkpaefeaplgnmaaGraphRg
import Derived.Test.YtkpaefeaplgnmaaGraphRd
import Derived.Test.YtkpaefeaplgnmaaLevLib
set_option linter.unusedSimpArgs false
set_option linter.unusedVariables false
namespace Go.Proofs.Ytkpaefeaplgnmaa.G
open Go.RowKit Go.Shelf Go.Proofs.Ytkpaefeaplgnmaa.PA Go.Proofs.Ytkpaefeaplgnmaa.Mp Go.Proofs.YtkpaefeaplgnmaaW.PrintWords Go.Proofs.YtkpaefeaplgnmaaW.PrintLast Go.Proofs.YtkpaefeaplgnmaaW.PrintMore

section
variable {l : List S53} {n r : Nat} {k out : List Int}
theorem con_sym (hs : ∀ x c, Adj l x c → Adj l c x) {x y : Nat} (h : Con l x y) : Con l y x := by
  induction h with
  | refl => exact .refl
  | step _ e ih => exact (Con.step .refl (hs _ _ e)).trans ih
theorem lab_eq (hs : ∀ x c, Adj l x c → Adj l c x) (h : Jo l n n out) {x y : Nat} (hx : x < n) (hy : y < n) (hc : Con l x y) : la out x = la out y := by
  obtain ⟨a, h1, h2, h3⟩ := h.least x (h.low x hx)
  obtain ⟨b, k1, k2, k3⟩ := h.least y (h.low y hy)
  have q1 := h3 b (hc.trans k2)
  have q2 := k3 a ((con_sym hs hc).trans h2)
  rw [h1, k1, Nat.le_antisymm q1 q2]
theorem lab_le (h : Jo l n n out) {x : Nat} (hx : x < n) : ∃ a : Nat, la out x = (a : Int) ∧ a ≤ x := by
  obtain ⟨a, h1, h2, h3⟩ := h.least x (h.low x hx)
  exact ⟨a, h1, h3 x .refl⟩
theorem way_con {a b : Nat} (h : Way l a b) : Con l a b := by
  induction h with
  | one h => exact .step .refl (.inl h)
  | more _ h ih => exact .step ih (.inl h)
theorem lev_way (hf : InB n l) (h : Bf n l r k []) {v : Nat} (hv : v < n) : 0 ≤ lv k v ↔ v = r ∨ Way l r v := by
  have h1 : ∀ e ∈ l, 0 ≤ e.f1 := fun e he => (hf e he).2.2.1
  constructor
  · intro h0
    have key : ∀ (m : Nat) (v : Nat), v < n → lv k v = (m : Int) → v = r ∨ Way l r v := by
      intro m
      induction m with
      | zero => intro v hv hm; exact .inl (h.zero v hv hm)
      | succ m ih =>
        intro v hv hm
        obtain ⟨e, he, e1, e2⟩ := h.from_ v hv (by omega)
        have hb := hf e he
        have hm' : v ∈ nxt l e.f0.toNat := (mem_nxt h1).2 ⟨e, he, by omega, e1⟩
        rcases ih e.f0.toNat (by omega) (by omega) with q | q
        · rw [q] at hm'
          exact .inr (.one hm')
        · exact .inr (.more q hm')
    exact key (lv k v).toNat v hv (by omega)
  · intro hw
    have key : ∀ u, Way l r u → 0 ≤ lv k u := by
      intro u hu
      have stp : ∀ b c, b < n → 0 ≤ lv k b → c ∈ nxt l b → 0 ≤ lv k c := by
        intro b c hb h0 hc
        obtain ⟨e, he, e0, e1⟩ := (mem_nxt h1).1 hc
        have := (h.done b hb h0 (by simp) e he e0).1
        rw [e1, Int.toNat_natCast] at this
        exact this
      have lt : ∀ b, Way l r b → b < n := by
        intro b hb
        have : ∀ u c, c ∈ nxt l u → c < n := fun u c hc => by
          obtain ⟨e, he, _, e1⟩ := (mem_nxt h1).1 hc
          have := hf e he
          omega
        cases hb with
        | one hc => exact this _ _ hc
        | more _ hc => exact this _ _ hc
      induction hu with
      | one hc => exact stp r _ h.root0.1 (by rw [h.root0.2]; exact Int.le_refl _) hc
      | more hb hc ih => exact stp _ _ (lt _ hb) ih hc
    rcases hw with rfl | hw
    · rw [h.root0.2]; exact Int.le_refl _
    · exact key v hw
theorem lev_ways (hf : InB n l) (h : Bf n l r k []) {v : Nat} (hv : v < n) : decide (0 ≤ lv k v) = (decide (v = r) || (ways l n r).getD v false) := by
  have := lev_way hf h hv
  have hw := ways_iff (l := l) (n := n) (a := r) (b := v)
  cases hq : (ways l n r).getD v false with
  | true =>
    have h2 := (hw.1 hq).2
    simp [this.2 (.inr h2)]
  | false =>
    have h2 : ¬ Way l r v := fun q => by rw [hw.2 ⟨hv, q⟩] at hq; cases hq
    by_cases e : v = r
    · simp [e]
      exact (by rw [← e]; exact this.2 (.inl e))
    · have h3 : ¬ 0 ≤ lv k v := fun q => by
        rcases this.1 q with q | q
        · exact e q
        · exact h2 q
      simp [e, h3]
end
end Go.Proofs.Ytkpaefeaplgnmaa.G
