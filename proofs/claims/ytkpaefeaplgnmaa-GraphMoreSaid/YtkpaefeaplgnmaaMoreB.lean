/- GraphRh, GraphRk, GraphRl, GraphRm, GraphRn, GraphRo, GraphRp -/
import Derived.Test.YtkpaefeaplgnmaaMoreA
import Derived.Test.YtkpaefeaplgnmaaLevLib
import Derived.Test.YtkpaefeaplgnmaaPAx8
import Derived.Test.YtkpaefeaplgnmaaPAx7
import Derived.Test.YtkpaefeaplgnmaaInRound
import Derived.Test.YtkpaefeaplgnmaaGraphN
import Derived.Test.YtkpaefeaplgnmaaPAx6
section
/- Plain laws: levels, ways, and what hangs together. -/
set_option linter.unusedSimpArgs false
set_option linter.unusedVariables false
namespace Go.Proofs.Ytkpaefeaplgnmaa.G
open Go.RowKit Go.Shelf Go.Proofs.Ytkpaefeaplgnmaa.PA Go.Proofs.Ytkpaefeaplgnmaa.Mp Go.Proofs.YtkpaefeaplgnmaaW.PrintWords Go.Proofs.YtkpaefeaplgnmaaW.PrintLast Go.Proofs.YtkpaefeaplgnmaaW.PrintMore

section
variable {l : List S53} {n r : Nat} {k out : List Int}
theorem con_sym (hs : ∀ x c, Adj l x c → Adj l c x) {x y : Nat} (h : Con l x y) : Con l y x := by
  induction h with
  | refl => exact .refl
  | step _ e ih => exact (Con.step .refl (hs _ _ e)).trans ih
theorem lab_eq (hs : ∀ x c, Adj l x c → Adj l c x) (h : Jo l n n out) {x y : Nat} (hx : x < n) (hy : y < n) (hc : Con l x y) : la out x = la out y := by
  obtain ⟨a, h1, h2, h3⟩ := h.least x (h.low x hx)
  obtain ⟨b, k1, k2, k3⟩ := h.least y (h.low y hy)
  have q1 := h3 b (hc.trans k2)
  have q2 := k3 a ((con_sym hs hc).trans h2)
  rw [h1, k1, Nat.le_antisymm q1 q2]
theorem lab_le (h : Jo l n n out) {x : Nat} (hx : x < n) : ∃ a : Nat, la out x = (a : Int) ∧ a ≤ x := by
  obtain ⟨a, h1, h2, h3⟩ := h.least x (h.low x hx)
  exact ⟨a, h1, h3 x .refl⟩
theorem way_con {a b : Nat} (h : Way l a b) : Con l a b := by
  induction h with
  | one h => exact .step .refl (.inl h)
  | more _ h ih => exact .step ih (.inl h)
theorem lev_way (hf : InB n l) (h : Bf n l r k []) {v : Nat} (hv : v < n) : 0 ≤ lv k v ↔ v = r ∨ Way l r v := by
  have h1 : ∀ e ∈ l, 0 ≤ e.f1 := fun e he => (hf e he).2.2.1
  constructor
  · intro h0
    have key : ∀ (m : Nat) (v : Nat), v < n → lv k v = (m : Int) → v = r ∨ Way l r v := by
      intro m
      induction m with
      | zero => intro v hv hm; exact .inl (h.zero v hv hm)
      | succ m ih =>
        intro v hv hm
        obtain ⟨e, he, e1, e2⟩ := h.from_ v hv (by omega)
        have hb := hf e he
        have hm' : v ∈ nxt l e.f0.toNat := (mem_nxt h1).2 ⟨e, he, by omega, e1⟩
        rcases ih e.f0.toNat (by omega) (by omega) with q | q
        · rw [q] at hm'
          exact .inr (.one hm')
        · exact .inr (.more q hm')
    exact key (lv k v).toNat v hv (by omega)
  · intro hw
    have key : ∀ u, Way l r u → 0 ≤ lv k u := by
      intro u hu
      have stp : ∀ b c, b < n → 0 ≤ lv k b → c ∈ nxt l b → 0 ≤ lv k c := by
        intro b c hb h0 hc
        obtain ⟨e, he, e0, e1⟩ := (mem_nxt h1).1 hc
        have := (h.done b hb h0 (by simp) e he e0).1
        rw [e1, Int.toNat_natCast] at this
        exact this
      have lt : ∀ b, Way l r b → b < n := by
        intro b hb
        have : ∀ u c, c ∈ nxt l u → c < n := fun u c hc => by
          obtain ⟨e, he, _, e1⟩ := (mem_nxt h1).1 hc
          have := hf e he
          omega
        cases hb with
        | one hc => exact this _ _ hc
        | more _ hc => exact this _ _ hc
      induction hu with
      | one hc => exact stp r _ h.root0.1 (by rw [h.root0.2]; exact Int.le_refl _) hc
      | more hb hc ih => exact stp _ _ (lt _ hb) ih hc
    rcases hw with rfl | hw
    · rw [h.root0.2]; exact Int.le_refl _
    · exact key v hw
theorem lev_ways (hf : InB n l) (h : Bf n l r k []) {v : Nat} (hv : v < n) : decide (0 ≤ lv k v) = (decide (v = r) || (ways l n r).getD v false) := by
  have := lev_way hf h hv
  have hw := ways_iff (l := l) (n := n) (a := r) (b := v)
  cases hq : (ways l n r).getD v false with
  | true =>
    have h2 := (hw.1 hq).2
    simp [this.2 (.inr h2)]
  | false =>
    have h2 : ¬ Way l r v := fun q => by rw [hw.2 ⟨hv, q⟩] at hq; cases hq
    by_cases e : v = r
    · simp [e]
      exact (by rw [← e]; exact this.2 (.inl e))
    · have h3 : ¬ 0 ≤ lv k v := fun q => by
        rcases this.1 q with q | q
        · exact e q
        · exact h2 q
      simp [e, h3]
end
end Go.Proofs.Ytkpaefeaplgnmaa.G
end
section
/- Plain laws: the document's Distinct. -/
set_option linter.unusedSimpArgs false
set_option linter.unusedVariables false
namespace Go.Proofs.Ytkpaefeaplgnmaa.G
open Go.RowKit Go.Shelf Go.Proofs.Ytkpaefeaplgnmaa.PA Go.Proofs.Ytkpaefeaplgnmaa.Mp Go.Proofs.YtkpaefeaplgnmaaW.PrintWords Go.Proofs.YtkpaefeaplgnmaaW.PrintLast Go.Proofs.YtkpaefeaplgnmaaW.PrintMore

def eqS (l : List S53) (j i : Nat) : Bool := ((rd_T53 l (j : Int)).f0 == (rd_T53 l (i : Int)).f0) && ((rd_T53 l (j : Int)).f1 == (rd_T53 l (i : Int)).f1)
def cmp (l : List S53) (i : Nat) : Nat → Nat → Bool → Bool
  | 0, _, al => al
  | e + 1, j, al => cmp l i e (j + 1) (if al = true then true else eqS l j i)
theorem cmp_iff (l : List S53) (i : Nat) : ∀ e j al, cmp l i e j al = true ↔ al = true ∨ ∃ t, j ≤ t ∧ t < j + e ∧ eqS l t i = true
  | 0, j, al => ⟨fun h => .inl h, fun h => h.elim id (fun ⟨t, h1, h2, _⟩ => by omega)⟩
  | e + 1, j, al => by
    rw [cmp, cmp_iff l i e (j + 1)]
    cases al with
    | true => simp
    | false =>
      simp only [Bool.false_eq_true, if_false, false_or]
      constructor
      · rintro (h | ⟨t, h1, h2, h3⟩)
        · exact ⟨j, Nat.le_refl _, by omega, h⟩
        · exact ⟨t, by omega, by omega, h3⟩
      · rintro ⟨t, h1, h2, h3⟩
        rcases Nat.eq_or_lt_of_le h1 with rfl | q
        · exact .inl h3
        · exact .inr ⟨t, by omega, by omega, h3⟩
theorem rdT {l : List S53} {i : Nat} (h : i < l.length) : rd_T53 l (i : Int) = l[i] := by simp [rd_T53, h]
theorem ww {x : Int} (h0 : -1000000 ≤ x) (h1 : x ≤ 1000000) : wrap64 x = x := by unfold wrap64; omega
theorem dist_l1 (l acc : List S53) (hl : l.length ≤ 1000) (i : Nat) (hi : i < l.length) : ∀ (e j k : Nat) (al : Bool), j + e = i → e < k → reticuleref03_Distinct.l1 k l acc (i : Int) al (j : Int) = reticuleref03_Distinct.l1 (k - e) l acc (i : Int) (cmp l i e j al) (i : Int)
  | 0, j, k, al, h, hk => by
    obtain rfl : j = i := by omega
    rfl
  | e + 1, j, k, al, h, hk => by
    obtain ⟨k, rfl⟩ : ∃ m, k = m + 1 := ⟨k - 1, by omega⟩
    have hw : wrap64 ((j : Int) + 1) = ((j + 1 : Nat) : Int) := by rw [ww (by omega) (by omega)]; omega
    rw [show k + 1 - (e + 1) = k - e by omega, cmp]
    conv => lhs; unfold reticuleref03_Distinct.l1
    rw [if_pos (by omega), hw]
    cases al with
    | true =>
      rw [if_pos rfl, if_pos rfl]
      exact dist_l1 l acc hl i hi e (j + 1) k true (by omega) (by omega)
    | false =>
      simp only [Bool.false_eq_true, if_false]
      rw [if_pos (by omega), if_pos (by omega), if_pos (by omega), if_pos (by omega)]
      exact dist_l1 l acc hl i hi e (j + 1) k _ (by omega) (by omega)
theorem dist_l0 (l : List S53) (hl : l.length ≤ 1000) : ∀ (d i k : Nat) (acc : List S53), i + d = l.length → d * (l.length + 3) < k → (∀ x, x ∈ acc ↔ x ∈ l.take i ∧ x.f0 ≠ x.f1) → acc.length ≤ i → reticuleref03_Distinct.l0 k l acc (i : Int) = some (dl acc (l.drop i))
  | 0, i, k, acc, h, hk, _, _ => by
    obtain ⟨k, rfl⟩ : ∃ m, k = m + 1 := ⟨k - 1, by omega⟩
    simp only [reticuleref03_Distinct.l0]
    rw [if_neg (by omega), List.drop_eq_nil_of_le (by omega), dl]
  | d + 1, i, k, acc, h, hk, hacc, hal => by
    rw [Nat.succ_mul] at hk
    obtain ⟨k, rfl⟩ : ∃ m, k = m + 1 := ⟨k - 1, by omega⟩
    have hi : i < l.length := by omega
    have hw : wrap64 ((i : Int) + 1) = ((i + 1 : Nat) : Int) := by rw [ww (by omega) (by omega)]; omega
    conv => lhs; unfold reticuleref03_Distinct.l0
    rw [if_pos (by omega), if_pos (by omega)]
    have h1 := dist_l1 l acc hl i hi i 0 k (((rd_T53 l (i : Int)).f0) == ((rd_T53 l (i : Int)).f1)) (by omega) (by omega)
    rw [show ((0 : Nat) : Int) = 0 from rfl] at h1
    rw [h1]
    have hc := cmp_iff l i i 0 (((rd_T53 l (i : Int)).f0) == ((rd_T53 l (i : Int)).f1))
    rw [rdT hi] at hc ⊢
    generalize cmp l i i 0 (l[i].f0 == l[i].f1) = al at hc ⊢
    have hmem : al = true ↔ l[i].f0 = l[i].f1 ∨ l[i] ∈ acc := by
      rw [hc]
      by_cases hloop : l[i].f0 = l[i].f1
      · simp [hloop]
      · have hb : (l[i].f0 == l[i].f1) = false := by simpa using hloop
        rw [hb, hacc]
        simp only [Bool.false_eq_true, false_or, hloop, ne_eq, not_false_eq_true, and_true]
        constructor
        · rintro ⟨t, _, h2, h3⟩
          unfold eqS at h3
          rw [rdT (by omega), rdT hi] at h3
          simp only [Bool.and_eq_true, beq_iff_eq] at h3
          have he : l[t] = l[i] := by
            cases hq : l[t]; cases hp : l[i]
            rw [hq, hp] at h3
            simp only at h3
            rw [h3.1, h3.2]
          rw [← he]
          exact List.mem_take_iff_getElem.2 ⟨t, by omega, rfl⟩
        · intro hm
          obtain ⟨t, ht, he⟩ := List.mem_take_iff_getElem.1 hm
          refine ⟨t, Nat.zero_le _, by omega, ?_⟩
          unfold eqS
          rw [rdT (by omega), rdT hi, he]
          simp
    obtain ⟨k2, hk2⟩ : ∃ m, k - i = m + 1 := ⟨k - i - 1, by omega⟩
    rw [hk2, List.drop_eq_getElem_cons hi, dl]
    unfold reticuleref03_Distinct.l1
    rw [if_neg (Int.lt_irrefl _), hw]
    by_cases ha : al = true
    · rw [if_pos ha, if_pos (hmem.1 ha)]
      refine dist_l0 l hl d (i + 1) k2 acc (by omega) (by omega) (fun x => ?_) (by omega)
      rw [hacc, List.take_succ_eq_append_getElem hi, List.mem_append, List.mem_singleton]
      constructor
      · exact fun q => ⟨.inl q.1, q.2⟩
      · rintro ⟨q | rfl, h2⟩
        · exact ⟨q, h2⟩
        · rcases hmem.1 ha with q | q
          · exact absurd q h2
          · exact (hacc _).1 q
    · have hn := fun q => ha (hmem.2 q)
      rw [if_neg ha, if_pos (by omega), if_pos (by omega), if_pos (by omega), if_neg hn, rdT hi]
      refine dist_l0 l hl d (i + 1) k2 (acc ++ [l[i]]) (by omega) (by omega) (fun x => ?_) (by simp; omega)
      rw [List.mem_append, hacc, List.take_succ_eq_append_getElem hi, List.mem_append, List.mem_singleton]
      constructor
      · rintro (q | rfl)
        · exact ⟨.inl q.1, q.2⟩
        · exact ⟨.inr rfl, fun q => hn (.inl q)⟩
      · rintro ⟨q | rfl, h2⟩
        · exact .inl ⟨q, h2⟩
        · exact .inr rfl
theorem dist_f (l : List S53) (hl : l.length ≤ 1000) : ∃ k, reticuleref03_Distinct.f k l = some (dl [] l) := by
  refine ⟨l.length * (l.length + 3) + 1, ?_⟩
  unfold reticuleref03_Distinct.f
  have := dist_l0 l hl l.length 0 (l.length * (l.length + 3) + 1) [] (by omega) (by omega) (fun x => by simp) (by simp)
  rw [List.drop_zero] at this
  exact this
end Go.Proofs.Ytkpaefeaplgnmaa.G
end
section
/- Plain laws: the document's Joined. -/
set_option linter.unusedSimpArgs false
set_option linter.unusedVariables false
namespace Go.Proofs.Ytkpaefeaplgnmaa.G
open Go.RowKit Go.Shelf Go.Proofs.Ytkpaefeaplgnmaa.PA Go.Proofs.Ytkpaefeaplgnmaa.Mp Go.Proofs.YtkpaefeaplgnmaaW.PrintWords Go.Proofs.YtkpaefeaplgnmaaW.PrintLast Go.Proofs.YtkpaefeaplgnmaaW.PrintMore

theorem rd53 {l : List S53} {i : Nat} (h : i < l.length) : rd_T53 l (i : Int) = l[i] := by simp [rd_T53, h]
theorem w64_succ {i : Nat} (h : i < 1000) : wrap64 ((i : Int) + 1) = ((i + 1 : Nat) : Int) := by unfold wrap64; omega
/-- One edge: both ends get the lesser label. -/
def js (o : List Int) (e : S53) : List Int :=
  let o1 := if lv o e.f0.toNat < lv o e.f1.toNat then o.set e.f1.toNat (lv o e.f0.toNat) else o
  if lv o1 e.f1.toNat < lv o1 e.f0.toNat then o1.set e.f0.toNat (lv o1 e.f1.toNat) else o1
theorem js_len (o : List Int) (e : S53) : (js o e).length = o.length := by
  unfold js
  simp only
  split <;> split <;> simp
theorem js_lv {o : List Int} {e : S53} (h0 : e.f0.toNat < o.length) (h1 : e.f1.toNat < o.length) (x : Nat) : lv (js o e) x = if x = e.f0.toNat ∨ x = e.f1.toNat then (if lv o e.f0.toNat < lv o e.f1.toNat then lv o e.f0.toNat else lv o e.f1.toNat) else lv o x := by
  unfold js
  simp only
  generalize e.f0.toNat = a at h0 h1 ⊢
  generalize e.f1.toNat = b at h0 h1 ⊢
  by_cases c : lv o a < lv o b
  · simp only [if_pos c]
    have hab : a ≠ b := fun q => by rw [q] at c; omega
    have hb : lv (o.set b (lv o a)) b = lv o a := by rw [lv_set h1, if_pos rfl]
    have ha : lv (o.set b (lv o a)) a = lv o a := by rw [lv_set h1, if_neg hab]
    rw [hb, ha, if_neg (Int.lt_irrefl _), lv_set h1]
    by_cases q : x = b
    · subst q; simp
    · rw [if_neg q]
      by_cases q2 : x = a
      · subst q2; simp
      · rw [if_neg (by simp [q, q2])]
  · simp only [if_neg c]
    by_cases c2 : lv o b < lv o a
    · rw [if_pos c2, lv_set h0]
      by_cases q : x = a
      · subst q; simp
      · rw [if_neg q]
        by_cases q2 : x = b
        · subst q2; simp
        · rw [if_neg (by simp [q, q2])]
    · rw [if_neg c2]
      by_cases q : x = a ∨ x = b
      · rw [if_pos q]
        rcases q with rfl | rfl
        · omega
        · rfl
      · rw [if_neg q]
def jrounds (l : List S53) : Nat → List Int → List Int
  | 0, o => o
  | d + 1, o => jrounds l d (l.foldl js o)
theorem jfold_len (l : List S53) (o : List Int) : (l.foldl js o).length = o.length := by
  induction l generalizing o with
  | nil => rfl
  | cons e l ih => rw [List.foldl_cons, ih, js_len]
theorem rd_lv (o : List Int) (x : Int) : rd o x = lv o x.toNat := rfl
theorem j_l2 (l : List S53) (n : Nat) (hf : InB n l) (hl : l.length ≤ 100) (r : Nat) (hr : r ≤ 100) : ∀ (d i k : Nat) (o : List Int), i + d = l.length → d < k → o.length = n → reticuleref03_Graph_Joined.l2 k o (r : Int) (i : Int) (n : Int) l = reticuleref03_Graph_Joined.l1 (k - d - 1) ((l.drop i).foldl js o) ((r + 1 : Nat) : Int) (n : Int) l
  | 0, i, k, o, h, hk, ho => by
    obtain ⟨k, rfl⟩ : ∃ m, k = m + 1 := ⟨k - 1, by omega⟩
    conv => lhs; unfold reticuleref03_Graph_Joined.l2
    simp only [reticuleref03_Graph_M.f, Option.bind_some]
    rw [if_neg (by omega), w64_succ (by omega), List.drop_eq_nil_of_le (by omega)]
    rfl
  | d + 1, i, k, o, h, hk, ho => by
    obtain ⟨k, rfl⟩ : ∃ m, k = m + 1 := ⟨k - 1, by omega⟩
    have hi : i < l.length := by omega
    have hfit := hf _ (List.getElem_mem hi)
    have ih := fun o' (h' : o'.length = n) => j_l2 l n hf hl r hr d (i + 1) k o' (by omega) (by omega) h'
    conv => lhs; unfold reticuleref03_Graph_Joined.l2
    simp only [reticuleref03_Graph_M.f, Option.bind_some, rd53 hi, w64_succ (show i < 1000 by omega)]
    rw [if_pos (by omega), if_pos (by omega), if_pos (by omega), if_pos (by omega), if_pos (by omega), if_pos (by omega), if_pos (by omega)]
    rw [List.drop_eq_getElem_cons hi, List.foldl_cons, show k + 1 - (d + 1) - 1 = k - d - 1 by omega]
    by_cases c : rd o l[i].f0 < rd o l[i].f1
    · rw [if_pos c]
      have e1 : js o l[i] = if rd (o.set l[i].f1.toNat (rd o l[i].f0)) l[i].f1 < rd (o.set l[i].f1.toNat (rd o l[i].f0)) l[i].f0 then (o.set l[i].f1.toNat (rd o l[i].f0)).set l[i].f0.toNat (rd (o.set l[i].f1.toNat (rd o l[i].f0)) l[i].f1) else o.set l[i].f1.toNat (rd o l[i].f0) := by
        unfold js
        simp only [if_pos (show lv o l[i].f0.toNat < lv o l[i].f1.toNat from c)]
        rfl
      rw [e1]
      by_cases c2 : rd (o.set l[i].f1.toNat (rd o l[i].f0)) l[i].f1 < rd (o.set l[i].f1.toNat (rd o l[i].f0)) l[i].f0
      · rw [if_pos c2, if_pos c2]
        exact ih _ (by simp [ho])
      · rw [if_neg c2, if_neg c2]
        exact ih _ (by simp [ho])
    · rw [if_neg c]
      have e1 : js o l[i] = if rd o l[i].f1 < rd o l[i].f0 then o.set l[i].f0.toNat (rd o l[i].f1) else o := by
        unfold js
        simp only [if_neg (show ¬ lv o l[i].f0.toNat < lv o l[i].f1.toNat from c)]
        rfl
      rw [e1]
      by_cases c2 : rd o l[i].f1 < rd o l[i].f0
      · rw [if_pos c2, if_pos c2]
        exact ih _ (by simp [ho])
      · rw [if_neg c2, if_neg c2]
        exact ih _ ho
theorem j_l1 (l : List S53) (n : Nat) (hf : InB n l) (hl : l.length ≤ 100) (hn : n ≤ 12) : ∀ (d r k : Nat) (o : List Int), r + d = n → d * (l.length + 2) < k → o.length = n → reticuleref03_Graph_Joined.l1 k o (r : Int) (n : Int) l = some (jrounds l d o, (n : Int))
  | 0, r, k, o, h, hk, ho => by
    obtain ⟨k, rfl⟩ : ∃ m, k = m + 1 := ⟨k - 1, by omega⟩
    unfold reticuleref03_Graph_Joined.l1
    simp only [reticuleref03_Graph_N.f, Option.bind_some]
    rw [if_neg (by omega)]
    rfl
  | d + 1, r, k, o, h, hk, ho => by
    rw [Nat.succ_mul] at hk
    obtain ⟨k, rfl⟩ : ∃ m, k = m + 1 := ⟨k - 1, by omega⟩
    conv => lhs; unfold reticuleref03_Graph_Joined.l1
    simp only [reticuleref03_Graph_N.f, Option.bind_some]
    rw [if_pos (by omega), show (0 : Int) = ((0 : Nat) : Int) from rfl, j_l2 l n hf hl r (by omega) l.length 0 k o (by omega) (by omega) ho, List.drop_zero]
    rw [j_l1 l n hf hl hn d (r + 1) (k - l.length - 1) _ (by omega) (by omega) (by rw [jfold_len]; exact ho)]
    rfl
def ups (n : Nat) : List Int := (List.range n).map fun v : Nat => (v : Int)
theorem j_l0 (l : List S53) (n : Nat) (hf : InB n l) (hl : l.length ≤ 100) (hn : n ≤ 12) (k0 : Nat) (hk0 : n * (l.length + 2) < k0) : ∀ (d i : Nat), i + d = n → reticuleref03_Graph_Joined.l0 (k0 + d + 1) (ups i) (i : Int) (n : Int) l = some (jrounds l n (ups n), (n : Int))
  | 0, i, h => by
    obtain rfl : i = n := by omega
    show reticuleref03_Graph_Joined.l0 (k0 + 1) _ _ _ _ = _
    unfold reticuleref03_Graph_Joined.l0
    simp only [reticuleref03_Graph_N.f, Option.bind_some]
    rw [if_neg (by omega), show (0 : Int) = ((0 : Nat) : Int) from rfl]
    exact j_l1 l i hf hl hn i 0 k0 _ (by omega) hk0 (by simp [ups])
  | d + 1, i, h => by
    have ih := j_l0 l n hf hl hn k0 hk0 d (i + 1) (by omega)
    show reticuleref03_Graph_Joined.l0 (k0 + d + 1 + 1) _ _ _ _ = _
    conv => lhs; unfold reticuleref03_Graph_Joined.l0
    simp only [reticuleref03_Graph_N.f, Option.bind_some]
    rw [if_pos (by omega), if_pos (by simp [ups]; omega), w64_succ (by omega)]
    have : ups (i + 1) = ups i ++ [(i : Int)] := by simp [ups, List.range_succ]
    rw [← this]
    exact ih

/-! ### The rounds come to the least labels -/
section
variable {l : List S53} {n : Nat} {T : Nat → Int}
/-- How many have their last label. -/
def hits (n : Nat) (T : Nat → Int) (o : List Int) : Nat := (List.range n).countP (fun x => lv o x == T x)
theorem hits_le (n : Nat) (T : Nat → Int) (o : List Int) : hits n T o ≤ n := by
  have := List.countP_le_length (p := fun x => lv o x == T x) (l := List.range n)
  simpa [hits] using this
theorem countP_lt {α : Type} {p q : α → Bool} : ∀ (s : List α), (∀ x ∈ s, p x = true → q x = true) → (∃ x ∈ s, p x = false ∧ q x = true) → s.countP p + 1 ≤ s.countP q
  | [], _, h => by obtain ⟨x, hx, _⟩ := h; cases hx
  | a :: s, hm, ⟨x, hx, h1, h2⟩ => by
    have hms := fun y (hy : y ∈ s) => hm y (List.mem_cons_of_mem _ hy)
    rw [List.countP_cons, List.countP_cons]
    rcases List.mem_cons.1 hx with rfl | hx
    · have := List.countP_mono_left (p := p) (q := q) (l := s) hms
      simp [h1, h2]
      omega
    · have ih := countP_lt s hms ⟨x, hx, h1, h2⟩
      cases hp : p a with
      | true => rw [hm a List.mem_cons_self hp]; simp; omega
      | false => simp; omega
def Above (n : Nat) (T : Nat → Int) (o : List Int) : Prop := o.length = n ∧ ∀ x, x < n → T x ≤ lv o x
theorem js_keep {o : List Int} {e : S53} (hb : 0 ≤ e.f0 ∧ e.f0 < n ∧ 0 ≤ e.f1 ∧ e.f1 < n) (hT : T e.f0.toNat = T e.f1.toNat) (h : Above n T o) : Above n T (js o e) ∧ (∀ x, x < n → lv o x = T x → lv (js o e) x = T x) ∧ ((lv o e.f0.toNat = T e.f0.toNat ∨ lv o e.f1.toNat = T e.f1.toNat) → lv (js o e) e.f0.toNat = T e.f0.toNat ∧ lv (js o e) e.f1.toNat = T e.f1.toNat) := by
  obtain ⟨hl, ha⟩ := h
  have h0 : e.f0.toNat < o.length := by omega
  have h1 : e.f1.toNat < o.length := by omega
  have hs := js_lv h0 h1
  have a0 := ha e.f0.toNat (by omega)
  have a1 := ha e.f1.toNat (by omega)
  refine ⟨⟨by rw [js_len]; exact hl, fun x hx => ?_⟩, fun x hx hq => ?_, fun hq => ?_⟩
  · rw [hs]
    split
    · rename_i c
      split
      · rcases c with rfl | rfl
        · exact a0
        · omega
      · rcases c with rfl | rfl
        · omega
        · exact a1
    · exact ha x hx
  · rw [hs]
    split
    · rename_i c
      rcases c with rfl | rfl
      · split <;> omega
      · split <;> omega
    · exact hq
  · have z0 := hs e.f0.toNat
    have z1 := hs e.f1.toNat
    rw [if_pos (Or.inl rfl)] at z0
    rw [if_pos (Or.inr rfl)] at z1
    rw [z0, z1]
    split <;> omega
theorem jfold_keep (hf : InB n l) (hT : ∀ e ∈ l, T e.f0.toNat = T e.f1.toNat) {o : List Int} (h : Above n T o) : Above n T (l.foldl js o) ∧ (∀ x, x < n → lv o x = T x → lv (l.foldl js o) x = T x) ∧ ∀ e ∈ l, (lv o e.f0.toNat = T e.f0.toNat ∨ lv o e.f1.toNat = T e.f1.toNat) → lv (l.foldl js o) e.f0.toNat = T e.f0.toNat ∧ lv (l.foldl js o) e.f1.toNat = T e.f1.toNat := by
  induction l generalizing o with
  | nil => exact ⟨h, fun _ _ q => q, fun e he => by cases he⟩
  | cons a l ih =>
    have hba := hf a List.mem_cons_self
    obtain ⟨k1, k2, k3⟩ := js_keep hba (hT a List.mem_cons_self) h
    obtain ⟨i1, i2, i3⟩ := ih (fun e he => hf e (List.mem_cons_of_mem _ he)) (fun e he => hT e (List.mem_cons_of_mem _ he)) k1
    rw [List.foldl_cons]
    refine ⟨i1, fun x hx q => i2 x hx (k2 x hx q), fun e he q => ?_⟩
    have hbe := hf e he
    rcases List.mem_cons.1 he with rfl | he'
    · obtain ⟨z0, z1⟩ := k3 q
      exact ⟨i2 _ (by omega) z0, i2 _ (by omega) z1⟩
    · exact i3 e he' (q.imp (k2 _ (by omega)) (k2 _ (by omega)))
theorem jround_hit (hf : InB n l) (hT : ∀ e ∈ l, T e.f0.toNat = T e.f1.toNat) (hcon : ∀ x, x < n → ∃ k : Nat, k < n ∧ Con l k x ∧ T k = (k : Int) ∧ T x = (k : Int)) {o : List Int} (h : Above n T o) (hlow : ∀ x, x < n → lv o x ≤ x) :
    (∀ x, x < n → lv o x = T x) ∨ hits n T o + 1 ≤ hits n T (l.foldl js o) := by
  by_cases hall : ∀ x, x < n → lv o x = T x
  · exact .inl hall
  · right
    obtain ⟨k1, k2, k3⟩ := jfold_keep hf hT h
    obtain ⟨x, hx⟩ := Classical.not_forall.1 hall
    obtain ⟨hxn, hx⟩ := Classical.not_imp.1 hx
    obtain ⟨k, hkn, hc, hTk, hTx⟩ := hcon x hxn
    have hk : lv o k = T k := by
      have a1 := h.2 k hkn
      have a2 := hlow k hkn
      omega
    have cross : ∀ y, Con l k y → lv o y ≠ T y → ∃ b c, Adj l b c ∧ lv o b = T b ∧ lv o c ≠ T c := by
      intro y hy
      induction hy with
      | refl => exact fun q => absurd hk q
      | @step b c hb hadj ih =>
        intro q
        by_cases hbo : lv o b = T b
        · exact ⟨b, c, hadj, hbo, q⟩
        · exact ih hbo
    obtain ⟨b, c, hadj, hb, hcn⟩ := cross x hc hx
    have fin : c < n ∧ lv (l.foldl js o) c = T c := by
      rcases hadj with q | q
      · obtain ⟨e, he, hp, rfl⟩ := mem_nx.1 q
        have hbe := hf e he
        have e0 : e.f0 = (b : Int) := by simpa [P_] using hp
        have e0' : e.f0.toNat = b := by omega
        exact ⟨by omega, (k3 e he (.inl (by rw [e0']; exact hb))).2⟩
      · obtain ⟨e, he, hp, rfl⟩ := mem_pr.1 q
        have hbe := hf e he
        have e0 : e.f1 = (b : Int) := by simpa [P_] using hp
        have e0' : e.f1.toNat = b := by omega
        exact ⟨by omega, (k3 e he (.inr (by rw [e0']; exact hb))).1⟩
    refine countP_lt (List.range n) (fun y hy q => ?_) ⟨c, List.mem_range.2 fin.1, by simpa using hcn, by simpa using fin.2⟩
    have := k2 y (List.mem_range.1 hy) (by simpa using q)
    simpa using this
theorem jfold_low (hf : InB n l) {o : List Int} (ho : o.length = n) (hlow : ∀ x, x < n → lv o x ≤ x) : ∀ x, x < n → lv (l.foldl js o) x ≤ lv o x := by
  induction l generalizing o with
  | nil => exact fun x _ => Int.le_refl _
  | cons a l ih =>
    have hba := hf a List.mem_cons_self
    have hs := js_lv (o := o) (e := a) (by omega) (by omega)
    have st : ∀ x, x < n → lv (js o a) x ≤ lv o x := fun x hx => by
      rw [hs]
      split
      · rename_i c
        rcases c with rfl | rfl
        · split <;> omega
        · split <;> omega
      · exact Int.le_refl _
    intro x hx
    rw [List.foldl_cons]
    have := ih (fun e he => hf e (List.mem_cons_of_mem _ he)) (o := js o a) (by rw [js_len]; exact ho) (fun y hy => Int.le_trans (st y hy) (hlow y hy)) x hx
    exact Int.le_trans this (st x hx)
theorem jrounds_hit (hf : InB n l) (hT : ∀ e ∈ l, T e.f0.toNat = T e.f1.toNat) (hcon : ∀ x, x < n → ∃ k : Nat, k < n ∧ Con l k x ∧ T k = (k : Int) ∧ T x = (k : Int)) : ∀ (d : Nat) (o : List Int), Above n T o → (∀ x, x < n → lv o x ≤ x) → n ≤ hits n T o + d → Above n T (jrounds l d o) ∧ ∀ x, x < n → lv (jrounds l d o) x = T x
  | 0, o, h, hlow, hh => by
    refine ⟨h, fun x hx => ?_⟩
    apply Classical.byContradiction
    intro q
    have h1 : hits n T o = (List.range n).length := by have := hits_le n T o; simp; omega
    have h2 := List.countP_eq_length.1 h1 x (List.mem_range.2 hx)
    exact q (show lv o x = T x by simpa using h2)
  | d + 1, o, h, hlow, hh => by
    obtain ⟨k1, k2, k3⟩ := jfold_keep hf hT h
    have hl2 := jfold_low hf h.1 hlow
    have hlow2 : ∀ x, x < n → lv (l.foldl js o) x ≤ x := fun x hx => Int.le_trans (hl2 x hx) (hlow x hx)
    refine jrounds_hit hf hT hcon d _ k1 hlow2 ?_
    rcases jround_hit hf hT hcon h hlow with q | q
    · have : hits n T (l.foldl js o) = n := by
        have h1 : (List.range n).countP (fun x => lv (l.foldl js o) x == T x) = (List.range n).length := List.countP_eq_length.2 (fun x hx => by
          have := k2 x (List.mem_range.1 hx) (q x (List.mem_range.1 hx))
          simpa using this)
        simpa [hits] using h1
      omega
    · omega
end
theorem la_lv {out : List Int} {x : Nat} (h : x < out.length) : la out x = lv out x := by simp [la, lv, h]
/-- Both come to the same labels. -/
theorem joined_f {l : List S53} {n : Nat} {out : List Int} (hf : InB n l) (hl : l.length ≤ 100) (hn : n ≤ 12) (hJ : Jo l n n out) : ∃ k, reticuleref03_Graph_Joined.f k (n : Int) l = some (out, (n : Int)) := by
  have hs : ∀ x c, Adj l x c → Adj l c x := adj_sym (fun e he => ⟨(hf e he).1, (hf e he).2.2.1⟩)
  have hol := hJ.len
  have key := jrounds_hit (l := l) (n := n) (T := lv out) hf (fun e he => by
      have hb := hf e he
      have := lab_eq hs hJ (x := e.f0.toNat) (y := e.f1.toNat) (by omega) (by omega) (.step .refl (.inl (mem_nx.2 ⟨e, he, by simp only [P_, beq_iff_eq]; omega, rfl⟩)))
      rw [la_lv (by omega), la_lv (by omega)] at this
      exact this)
    (fun x hx => by
      obtain ⟨k, h1, h2, h3⟩ := hJ.least x (hJ.low x hx)
      have hkx := h3 x .refl
      have hkl := lab_eq hs hJ hx (show k < n by omega) h2
      refine ⟨k, by omega, con_sym hs h2, ?_, ?_⟩
      · rw [← la_lv (by omega), ← hkl, h1]
      · rw [← la_lv (by omega), h1])
    n (ups n) ⟨by simp [ups], fun x hx => by
      obtain ⟨a, h1, h2⟩ := lab_le hJ hx
      rw [← la_lv (by omega), h1]
      simp [lv, ups, hx]
      exact h2⟩ (fun x hx => by simp [lv, ups, hx]) (by omega)
  refine ⟨n * (l.length + 2) + 1 + n + 1, ?_⟩
  unfold reticuleref03_Graph_Joined.f
  have h0 := j_l0 l n hf hl hn (n * (l.length + 2) + 1) (by omega) n 0 (by omega)
  have hu : ups 0 = [] := rfl
  rw [hu] at h0
  rw [show (0 : Int) = ((0 : Nat) : Int) from rfl, h0]
  congr 2
  apply List.ext_getElem
  · rw [key.1.1, hol]
  · intro x h1 h2
    have := key.2 x (by omega)
    simpa [lv, h1, h2] using this
end Go.Proofs.Ytkpaefeaplgnmaa.G
end
section
/- Plain laws: the document's Reaches; the rows that it makes. -/
set_option linter.unusedSimpArgs false
set_option linter.unusedVariables false
namespace Go.Proofs.Ytkpaefeaplgnmaa.G
open Go.RowKit Go.Shelf Go.Proofs.Ytkpaefeaplgnmaa.PA Go.Proofs.Ytkpaefeaplgnmaa.Mp Go.Proofs.YtkpaefeaplgnmaaW.PrintWords Go.Proofs.YtkpaefeaplgnmaaW.PrintLast Go.Proofs.YtkpaefeaplgnmaaW.PrintMore

/-- One edge, in one row. -/
def rs (r : List Bool) (e : S53) : List Bool := if r.getD e.f0.toNat false = true then r.set e.f1.toNat true else r
def b1 (z : Nat) (r : List Bool) (e : S53) : List Bool := if e.f0.toNat = z then r.set e.f1.toNat true else r
def base (L : List S53) (n z : Nat) : List Bool := L.foldl (b1 z) (List.replicate n false)
def rr (l : List S53) : Nat → List Bool → List Bool
  | 0, r => r
  | d + 1, r => l.foldl rs (rr l d r)
theorem rs_len (r : List Bool) (e : S53) : (rs r e).length = r.length := by unfold rs; split <;> simp
theorem b1_len (z : Nat) (r : List Bool) (e : S53) : (b1 z r e).length = r.length := by unfold b1; split <;> simp
theorem rsf_len (l : List S53) (r : List Bool) : (l.foldl rs r).length = r.length := by
  induction l generalizing r with
  | nil => rfl
  | cons e l ih => rw [List.foldl_cons, ih, rs_len]
theorem base_len (L : List S53) (n z : Nat) : (base L n z).length = n := by
  have : ∀ (L : List S53) (r : List Bool), (L.foldl (b1 z) r).length = r.length := by
    intro L
    induction L with
    | nil => intro r; rfl
    | cons e l ih => intro r; rw [List.foldl_cons, ih, b1_len]
  rw [base, this]
  simp
theorem rr_len (l : List S53) (d : Nat) (r : List Bool) : (rr l d r).length = r.length := by
  induction d with
  | zero => rfl
  | succ d ih => rw [rr, rsf_len, ih]
def bt (r : List Bool) (b : Nat) : Bool := r.getD b false
theorem bt_set (r : List Bool) (b c : Nat) : bt (r.set b true) c = if c = b ∧ b < r.length then true else bt r c := getD_set r b c
section
variable {l : List S53} {n a : Nat}
theorem base_iff (hf : InB n l) : ∀ (L : List S53), (∀ e ∈ L, e ∈ l) → ∀ (r : List Bool), r.length = n → ∀ b, bt (L.foldl (b1 a) r) b = true ↔ bt r b = true ∨ ∃ e ∈ L, e.f0.toNat = a ∧ e.f1.toNat = b
  | [], _, r, _, b => by simp
  | e :: L, hL, r, hr, b => by
    have hb := hf e (hL e List.mem_cons_self)
    rw [List.foldl_cons, base_iff hf L (fun x hx => hL x (List.mem_cons_of_mem _ hx)) _ (by rw [b1_len]; exact hr)]
    unfold b1
    by_cases c : e.f0.toNat = a
    · rw [if_pos c, bt_set]
      constructor
      · rintro (h | ⟨x, h1, h2⟩)
        · split at h
          · rename_i q
            exact .inr ⟨e, List.mem_cons_self, c, q.1.symm⟩
          · exact .inl h
        · exact .inr ⟨x, List.mem_cons_of_mem _ h1, h2⟩
      · rintro (h | ⟨x, h1, h2, h3⟩)
        · left; split
          · rfl
          · exact h
        · rcases List.mem_cons.1 h1 with rfl | h1
          · left
            rw [if_pos ⟨h3.symm, by omega⟩]
          · exact .inr ⟨x, h1, h2, h3⟩
    · rw [if_neg c]
      constructor
      · rintro (h | ⟨x, h1, h2⟩)
        · exact .inl h
        · exact .inr ⟨x, List.mem_cons_of_mem _ h1, h2⟩
      · rintro (h | ⟨x, h1, h2, h3⟩)
        · exact .inl h
        · rcases List.mem_cons.1 h1 with rfl | h1
          · exact absurd h2 c
          · exact .inr ⟨x, h1, h2, h3⟩
theorem nx_of {e : S53} (hf : InB n l) (he : e ∈ l) : e.f1.toNat ∈ nxt l e.f0.toNat := mem_nx.2 ⟨e, he, by have := hf e he; simp only [P_, beq_iff_eq]; omega, rfl⟩
theorem rs_keep (r : List Bool) (e : S53) (b : Nat) (h : bt r b = true) : bt (rs r e) b = true := by
  unfold rs
  split
  · rw [bt_set]; split
    · rfl
    · exact h
  · exact h
theorem rsf_keep (l : List S53) (r : List Bool) (b : Nat) (h : bt r b = true) : bt (l.foldl rs r) b = true := by
  induction l generalizing r with
  | nil => exact h
  | cons e l ih => rw [List.foldl_cons]; exact ih _ (rs_keep r e b h)
theorem rsf_sound (hf : InB n l) : ∀ (L : List S53), (∀ e ∈ L, e ∈ l) → ∀ (r : List Bool), (∀ b, bt r b = true → Way l a b) → ∀ b, bt (L.foldl rs r) b = true → Way l a b
  | [], _, r, h, b, hb => h b hb
  | e :: L, hL, r, h, b, hb => by
    refine rsf_sound hf L (fun x hx => hL x (List.mem_cons_of_mem _ hx)) (rs r e) (fun c hc => ?_) b hb
    unfold rs at hc
    split at hc
    · rename_i q
      rw [bt_set] at hc
      split at hc
      · rename_i q2
        rw [q2.1]
        exact .more (h _ q) (nx_of hf (hL e List.mem_cons_self))
      · exact h c hc
    · exact h c hc
theorem rsf_reach (hf : InB n l) : ∀ (L : List S53), (∀ e ∈ L, e ∈ l) → ∀ (r : List Bool), r.length = n → ∀ e ∈ L, bt r e.f0.toNat = true → bt (L.foldl rs r) e.f1.toNat = true
  | [], _, r, _, e, he, _ => by cases he
  | x :: L, hL, r, hr, e, he, hb => by
    rw [List.foldl_cons]
    rcases List.mem_cons.1 he with rfl | he
    · apply rsf_keep
      have := hf e (hL e List.mem_cons_self)
      unfold rs
      rw [if_pos (show r.getD e.f0.toNat false = true from hb), bt_set, if_pos ⟨rfl, by omega⟩]
    · exact rsf_reach hf L (fun y hy => hL y (List.mem_cons_of_mem _ hy)) _ (by rw [rs_len]; exact hr) e he (rs_keep r x _ hb)
def tc (n : Nat) (r : List Bool) : Nat := (List.range n).countP (fun b => bt r b)
theorem tc_le (n : Nat) (r : List Bool) : tc n r ≤ n := by
  have := List.countP_le_length (p := fun b => bt r b) (l := List.range n)
  simpa [tc] using this
def Shut (l : List S53) (r : List Bool) : Prop := ∀ e ∈ l, bt r e.f0.toNat = true → bt r e.f1.toNat = true
theorem rs_grow (hf : InB n l) {r : List Bool} (hr : r.length = n) (h : ¬ Shut l r) : tc n r + 1 ≤ tc n (l.foldl rs r) := by
  obtain ⟨e, he⟩ := Classical.not_forall.1 h
  obtain ⟨he, h2⟩ := Classical.not_imp.1 he
  obtain ⟨h0, h1⟩ := Classical.not_imp.1 h2
  have hb := hf e he
  refine countP_lt (List.range n) (fun b _ q => rsf_keep l r b q) ⟨e.f1.toNat, List.mem_range.2 (by omega), by simpa using h1, rsf_reach hf l (fun _ h => h) r hr e he h0⟩
theorem shut_same (hf : InB n l) {r : List Bool} (h : Shut l r) (L : List S53) (hL : ∀ e ∈ L, e ∈ l) : L.foldl rs r = r := by
  induction L with
  | nil => rfl
  | cons e L ih =>
    have he := hL e List.mem_cons_self
    have : rs r e = r := by
      unfold rs
      split
      · rename_i q
        have h1 := h e he q
        apply List.ext_getElem
        · simp
        · intro i h2 h3
          rw [List.getElem_set]
          split
          · rename_i q2
            subst q2
            simp only [bt, List.getD_eq_getElem?_getD, List.getElem?_eq_getElem h3] at h1
            exact h1.symm
          · rfl
      · rfl
    rw [List.foldl_cons, this]
    exact ih (fun x hx => hL x (List.mem_cons_of_mem _ hx))
theorem rr_shut (hf : InB n l) {r : List Bool} (hr : r.length = n) : ∀ d, Shut l (rr l d r) ∨ d ≤ tc n (rr l d r)
  | 0 => .inr (Nat.zero_le _)
  | d + 1 => by
    by_cases h : Shut l (rr l d r)
    · left
      rw [rr, shut_same hf h l (fun _ h => h)]
      exact h
    · right
      have := rs_grow hf (by rw [rr_len]; exact hr) h
      rcases rr_shut hf hr d with q | q
      · exact absurd q h
      · rw [rr]; omega
theorem rr_ways (hf : InB n l) : rr l n (base l n a) = ways l n a := by
  have hlen : (rr l n (base l n a)).length = n := by rw [rr_len, base_len]
  have hrep : ∀ b, bt (List.replicate n false) b = false := fun b => by
    unfold bt
    rw [List.getD_eq_getElem?_getD, List.getElem?_replicate]
    split <;> rfl
  have hbase : ∀ b, bt (base l n a) b = true ↔ ∃ e ∈ l, e.f0.toNat = a ∧ e.f1.toNat = b := fun b => by
    unfold base
    rw [base_iff hf l (fun _ h => h) _ (by simp), hrep]
    simp
  have sound : ∀ d b, bt (rr l d (base l n a)) b = true → Way l a b := by
    intro d
    induction d with
    | zero =>
      intro b h
      obtain ⟨e, he, h0, h1⟩ := (hbase b).1 h
      have := nx_of hf he
      rw [h0, h1] at this
      exact .one this
    | succ d ih => exact fun b h => rsf_sound hf l (fun _ h => h) _ ih b h
  have keep : ∀ d b, bt (base l n a) b = true → bt (rr l d (base l n a)) b = true := by
    intro d
    induction d with
    | zero => exact fun b h => h
    | succ d ih => exact fun b h => rsf_keep l _ b (ih b h)
  have shut : Shut l (rr l n (base l n a)) := by
    rcases rr_shut hf (base_len l n a) n with h | h
    · exact h
    · intro e he _
      have hb := hf e he
      have h1 : tc n (rr l n (base l n a)) = (List.range n).length := by have := tc_le n (rr l n (base l n a)); simp; omega
      exact List.countP_eq_length.1 h1 e.f1.toNat (List.mem_range.2 (by omega))
  have all : ∀ b, Way l a b → bt (rr l n (base l n a)) b = true := fun b hw => by
    induction hw with
    | one hc =>
      obtain ⟨e, he, hp, rfl⟩ := mem_nx.1 hc
      have := hf e he
      have h0 : e.f0 = (a : Int) := by simpa [P_] using hp
      exact keep n _ ((hbase _).2 ⟨e, he, by omega, rfl⟩)
    | @more b c _ hc ih =>
      obtain ⟨e, he, hp, rfl⟩ := mem_nx.1 hc
      have := hf e he
      have h0 : e.f0 = (b : Int) := by simpa [P_] using hp
      exact shut e he (by rw [show e.f0.toNat = b by omega]; exact ih)
  have hwl : (ways l n a).length = n := by simp [ways]
  apply List.ext_getElem
  · rw [hlen, hwl]
  · intro b h1 h2
    have e : ∀ (x : List Bool) (hx : b < x.length), bt x b = x[b] := fun x hx => by unfold bt; rw [List.getD_eq_getElem?_getD, List.getElem?_eq_getElem hx]; rfl
    rw [← e _ h1, ← e _ h2]
    apply Bool.eq_iff_iff.2
    have hw := ways_iff (l := l) (n := n) (a := a) (b := b)
    constructor
    · intro q
      exact hw.2 ⟨by omega, sound n b q⟩
    · intro q
      exact all b (hw.1 q).2
end
end Go.Proofs.Ytkpaefeaplgnmaa.G
end
section
/- The walk of the document's Reaches. -/
set_option linter.unusedSimpArgs false
set_option linter.unusedVariables false
namespace Go.Proofs.Ytkpaefeaplgnmaa.G
open Go.RowKit Go.Shelf Go.Proofs.Ytkpaefeaplgnmaa.PA Go.Proofs.Ytkpaefeaplgnmaa.Mp Go.Proofs.YtkpaefeaplgnmaaW.PrintWords Go.Proofs.YtkpaefeaplgnmaaW.PrintLast Go.Proofs.YtkpaefeaplgnmaaW.PrintMore

structure Rg (w0 W : World) (v : Value) (n k : Nat) (gi : Nat → Nat) (R : Nat → List Bool) : Prop where
 ot : W.ownsRow w0.heap.size 54 1 v k ((List.range k).map (fun x => Value.slice (some ⟨gi x, 0, none⟩) n n))
 it : ∀ x, x < k → W.heap[gi x]? = some (.cells ((R x).map Value.bool).toArray 4 (0, 0)) ∧ (R x).length = n ∧ w0.heap.size ≤ gi x
 ne : ∀ x y, x < k → y < k → x ≠ y → gi x ≠ gi y
 bl : Below w0.heap.size w0 W
section
variable {w0 W : World} {v : Value} {n k : Nat} {gi : Nat → Nat} {R : Nat → List Bool}
theorem Rg.below {W' : World} (h : Rg w0 W v n k gi R) (hb : Below W.heap.size W W') : Rg w0 W' v n k gi R :=
 ⟨own_below h.ot hb, fun x hx => ⟨(hb.block _ (Array.getElem?_eq_some_iff.1 (h.it x hx).1).1).trans (h.it x hx).1, (h.it x hx).2⟩, h.ne, h.bl.trans ⟨hb.os, hb.tape, hb.output, hb.size, fun q hq => hb.block q (Nat.lt_of_lt_of_le hq h.bl.size)⟩⟩
theorem Rg.set (h : Rg w0 W v n k gi R) {x b : Nat} (hx : x < k) : Rg w0 (W.setCell ⟨gi x, b, none⟩ (.bool true)) v n k gi (fun y => if y = x then (R x).set b true else R y) := by
 obtain ⟨h1, h2, h3⟩ := h.it x hx
 refine ⟨h.ot.kept (setCell_grown W (gi x) b _) (.inr (fun e => ?_)), fun y hy => ?_, h.ne, h.bl.setCell (p := ⟨gi x, b, none⟩) h3 _⟩
 ·obtain ⟨_, c, hc⟩ := own_lt h.ot e
  exact cells_ne hc h1 (by decide) rfl
 ·obtain ⟨q1, q2, q3⟩ := h.it y hy
  by_cases e : y = x
  ·subst e
   rw [if_pos rfl]
   refine ⟨?_, by rw [List.length_set]; exact h2, h3⟩
   rw [heap_setCell_same W (gi y) b _ 4 _ h1, List.setIfInBounds_toArray]
   simp [List.map_set]
  ·rw [if_neg e]
   exact ⟨set_far q1 (h.ne y x hy hx e), q2, q3⟩
theorem Rg.congr {R' : Nat → List Bool} (h : Rg w0 W v n k gi R) (e : ∀ x, x < k → R x = R' x) : Rg w0 W v n k gi R' := ⟨h.ot, fun x hx => by rw [← e x hx]; exact h.it x hx, h.ne, h.bl⟩
theorem Rg.row {go cap : Nat} (h : Rg w0 W (.slice (some ⟨go, 0, none⟩) k cap) n k gi R) {x : Nat} (hx : x < k) : W.cell? ⟨go, x, none⟩ = some (.slice (some ⟨gi x, 0, none⟩) n n) := (h.ot.cellAt x (by omega)).trans (by simp [hx])
theorem Rg.bit (h : Rg w0 W v n k gi R) {x b : Nat} (hx : x < k) (hb : b < n) : W.cell? ⟨gi x, b, none⟩ = some (.bool (bt (R x) b)) ∧ W.frozen? ⟨gi x, b, none⟩ = false := by
 obtain ⟨h1, h2, _⟩ := h.it x hx
 refine ⟨?_, by simp [World.frozen?, h1]⟩
 rw [cell_of h1]
 simp [bt, show b < (R x).length by omega]
theorem Rg.push (h : Rg w0 W v n k gi (fun _ => List.replicate n false)) (hk : k ≤ 100) : ∃ v1 w1, (Builtin.append_ #[49, 49] 49 #[v, .slice (some ⟨W.heap.size + 1, 0, none⟩) 1 1]).run Try.prog ((W.alloc (.cells (Array.replicate n (.bool false)) 4)).alloc (.cells #[.slice (some ⟨W.heap.size, 0, none⟩) n n] 54)) = .ok v1 w1 ∧ Rg w0 w1 v1 n (k + 1) (fun x => if x = k then W.heap.size else gi x) (fun _ => List.replicate n false) := by
 have hA : Below W.heap.size W ((W.alloc (.cells (Array.replicate n (.bool false)) 4)).alloc (.cells #[.slice (some ⟨W.heap.size, 0, none⟩) n n] 54)) := ((Below.refl _ W).alloc (Nat.le_refl _) _).alloc (by simp) _
 have hn : ((W.alloc (.cells (Array.replicate n (.bool false)) 4)).alloc (.cells #[.slice (some ⟨W.heap.size, 0, none⟩) n n] 54)).heap[W.heap.size]? = some (.cells (Array.replicate n (.bool false)) 4 (0, 0)) := by
  rw [Below.heap_alloc _ _ _ (by simp)]
  exact World.alloc_heap_new _ _
 have hb1 : ((W.alloc (.cells (Array.replicate n (.bool false)) 4)).alloc (.cells #[.slice (some ⟨W.heap.size, 0, none⟩) n n] 54)).heap[W.heap.size + 1]? = some (.cells #[.slice (some ⟨W.heap.size, 0, none⟩) n n] 54 (0, 0)) := by
  have := World.alloc_heap_new (W.alloc (.cells (Array.replicate n (.bool false)) 4)) (.cells #[.slice (some ⟨W.heap.size, 0, none⟩) n n] 54)
  rwa [World.size_alloc] at this
 have hz : ((W.alloc (.cells (Array.replicate n (.bool false)) 4)).alloc (.cells #[.slice (some ⟨W.heap.size, 0, none⟩) n n] 54)).heap.size = W.heap.size + 2 := by simp
 have h2 := h.below hA
 generalize (W.alloc (.cells (Array.replicate n (.bool false)) 4)).alloc (.cells #[.slice (some ⟨W.heap.size, 0, none⟩) n n] 54) = W2 at hA hn hb1 hz h2 ⊢
 obtain ⟨i5, hi5, z5, s5, b5⟩ := info_parts info54
 obtain ⟨v', w', hr, q2, q3, _, q5⟩ := run_append_own_at (P := Try.prog) W2 w0.heap.size 49 49 54 i5 (.slice none 0 0) 1 24 Try.underlying49 hi5 z5 s5 b5 rfl (by decide) v k _ h2.ot ⟨W.heap.size + 1, 0, none⟩ 1 1 [.slice (some ⟨W.heap.size, 0, none⟩) n n] rfl (fun j u hu => by
  cases j with
  | zero => cases hu; rw [Addr.add_lit]; rw [cell_of hb1]; rfl
  | succ j => simp at hu) (fun u hu => by rw [List.mem_singleton.1 hu]; rfl) (by unfold maxLen; omega) (by omega) h2.bl.size
 have own_ne : ∀ (g : Nat) (c : Array Value), W2.heap[g]? = some (Obj.cells c 4 (0, 0)) → w'.heap[g]? = some (Obj.cells c 4 (0, 0)) := fun g c hg => by
  refine (q3.block g (Array.getElem?_eq_some_iff.1 hg).1 (fun e => ?_)).trans hg
  obtain ⟨_, c', hc'⟩ := own_lt h2.ot e.symm
  exact cells_ne hc' hg (by decide) rfl
 have hlt : ∀ x, x < k → gi x < W.heap.size := fun x hx => (Array.getElem?_eq_some_iff.1 (h.it x hx).1).1
 refine ⟨v', w', hr, ?_, fun x hx => ?_, fun x y hx hy hxy => ?_, h2.bl.grown q3 h2.bl.size (fun b hb => own_ge h2.ot hb)⟩
 ·have e : (List.range (k + 1)).map (fun x => Value.slice (some ⟨if x = k then W.heap.size else gi x, 0, none⟩) n n) = (List.range k).map (fun x => Value.slice (some ⟨gi x, 0, none⟩) n n) ++ [.slice (some ⟨W.heap.size, 0, none⟩) n n] := by
   rw [List.range_succ, List.map_append]
   congr 1
   ·apply List.map_congr_left
    intro x hx
    have := List.mem_range.1 hx
    rw [if_neg (by omega)]
   ·simp
  rw [e]
  exact q2
 ·by_cases e : x = k
  ·subst e
   rw [if_pos rfl]
   exact ⟨by rw [own_ne _ _ hn]; simp, by simp, h.bl.size⟩
  ·rw [if_neg e]
   obtain ⟨t1, t2, t3⟩ := h2.it x (by omega)
   exact ⟨own_ne _ _ t1, t2, t3⟩
 ·by_cases ex : x = k
  ·subst ex
   rw [if_pos rfl, if_neg (by omega)]
   have := hlt y (by omega)
   omega
  ·rw [if_neg ex]
   by_cases ey : y = k
   ·subst ey
    rw [if_pos rfl]
    have := hlt x (by omega)
    omega
   ·rw [if_neg ey]
    exact h.ne x y (by omega) (by omega) hxy
end
theorem cap_le {w : World} {b e s n g cap : Nat} {xs : List Value} (h : w.ownsRow b e s (.slice (some ⟨g, 0, none⟩) n cap) n xs) : n ≤ cap := by
 rcases h.2 with ⟨e, _⟩ | ⟨g', c', cur, e, _, _, h1, _⟩
 ·cases e
 ·injection e with _ _ e3
  omega
theorem wpList_run {P : Program} {ops : Array Oper} {rest : List Oper} {Q : Exit → Act → World → Prop} {o : Oper} {a : Act} {w w1 : World} {v u v1 : Value} {t t' : TypeId} (hg : o.guard = none) (s x : Operand)
  (ho : o.op = .call { callee := .builtin .append, args := #[s, x], argTypes := #[t, t'] }) (hs : a.eval s = v) (hx : a.eval x = u) (hr : (Builtin.append_ #[t, t'] o.type #[v, u]).run P w = .ok v1 w1)
  (h : wpList P ops Q rest (a.put o.dst v1) w1) : wpList P ops Q (o :: rest) a w := by
 refine Kd.event_run hg ?_ h
 unfold execOp
 simp only [ho, resolve, invoke, builtin, Sem.run_bind, Sem.run_pure, Result.andThen_ok, List.map_toArray, List.map_cons, List.map_nil, hs, hx, hr]
theorem rN_c (g n : Nat) (w : World) (p0 : w.cell? ⟨g, 0, none⟩ = some (.int .i64 (n : Int))) : Calls Try.prog 54 #[.pointer (some ⟨g, 0, none⟩)] w fun e w' => e = .returned (.int .i64 (n : Int)) ∧ w' = w := by
 have lg := World.block_lt_of_cell? w _ p0
 go_enter Try.func54, Try.ntmps54
 go_wp2
 go_ret
 exact ⟨rfl, rfl⟩
theorem rM_c (g : Nat) (A : Option Addr) (m c : Nat) (w : World) (p1 : w.cell? ⟨g, 1, none⟩ = some (.slice A m c)) : Calls Try.prog 55 #[.pointer (some ⟨g, 0, none⟩)] w fun e w' => e = .returned (.int .i64 (m : Int)) ∧ w' = w := by
 have lg := World.block_lt_of_cell? w _ p1
 go_enter Try.func55, Try.ntmps55
 go_wp2
 go_ret
 exact ⟨rfl, rfl⟩
set_option maxRecDepth 100000 in
set_option maxHeartbeats 8000000 in
theorem reachesR_ok (w0 w : World) (g n : Nat) (l : List S53) (hi : IsS66 w0 w g n l) (hb : Below w0.heap.size w0 w) (hf : Fits n l) :
  Calls Try.prog 34 #[.pointer (some ⟨g, 0, none⟩)] w fun e w' => ∃ go cap gi, n ≤ cap ∧ e = .returned (.slice (some ⟨go, 0, none⟩) n cap) ∧ Rg w w' (.slice (some ⟨go, 0, none⟩) n cap) n n gi (ways l n) := by
 obtain ⟨A1, c1, hg, hge, hC⟩ := hi
 have hE := Kd.C_below hC hb
 have p0 : w.cell? ⟨g, 0, none⟩ = some (.int .i64 (n : Int)) := by rw [cell_of hg]; rfl
 have p1 : w.cell? ⟨g, 1, none⟩ = some (.slice A1 l.length c1) := by rw [cell_of hg]; rfl
 have l0 : g < w.heap.size := World.block_lt_of_cell? w _ p0
 have h12 := hf.top
 have h1 := hf.one
 have h30 := hf.few
 have hm := mk_of 54 4 (.bool false) 1 Try.underlying54 info4 rfl n (by omega) (by decide)
 have HE := Lib.hid hE
 have HF := Lib.hid hf
 have HP0 := Lib.hid p0
 have HP1 := Lib.hid p1
 clear hg hge hC hE hb p0 p1 hf
 go_enter Try.func34, Try.ntmps34
 go_wp2
 go_loopw [3, 4] (fun v3 v4 wr => ∃ (k : Nat) (gi : Nat → Nat), k ≤ n ∧ v4 = .int .i64 k ∧ Rg w wr v3 n k gi (fun _ => List.replicate n false)) (fun _ v4 _ => n - (intOf v4).toNat)
 case atStart => exact ⟨0, fun _ => 0, Nat.zero_le _, rfl, ⟨⟨by simp, .inl ⟨rfl, rfl⟩⟩, fun x hx => by omega, fun x y hx => by omega, Below.refl _ _⟩⟩
 case round =>
  obtain ⟨k, gi, hk, rfl, hR⟩ := hrel
  have HR := Lib.hid hR
  clear hR
  have r0 := (HR.out.bl.cell (World.block_lt_of_cell? w _ HP0.out)).trans HP0.out
  go_wp2_with fail
  with_reducible refine (rN_c g n _ r0).mono ?_
  rintro e w1 ⟨rfl, rfl⟩
  by_cases hlt : k < n
  ·have d1 : decide (k < n) = true := decide_eq_true hlt
   go_wp2_with fail
   with_reducible refine (rN_c g n _ r0).mono ?_
   rintro e w1 ⟨rfl, rfl⟩
   obtain ⟨v1, w1, hr, hR1⟩ := HR.out.push (by omega)
   have HRUN := Lib.hid hr
   have HR1 := Lib.hid hR1
   clear hr hR1
   go_wp2_with (first | ((with_reducible refine gate_builtin (b := .append) (xs := #[.tmp 15, .tmp 19]) rfl ?_); at_builtin; refine wpList_run rfl _ _ rfl rfl rfl HRUN.out ?_))
   exact ⟨⟨k + 1, _, by omega, by go_num, HR1.out⟩, by simp [intOf]; omega⟩
  ·have d1 : decide (k < n) = false := decide_eq_false hlt
   obtain rfl : k = n := by omega
   obtain ⟨go, cap, rfl⟩ := own_form HR.out.ot (by omega)
   go_wp2
   have HR2 := Lib.hid (HR.out.congr (R' := fun z => base (l.take 0) k z) (fun x _ => rfl))
   clear HR r0
   go_loopw [5] (fun v5 wr => ∃ i : Nat, i ≤ l.length ∧ v5 = .int .i64 i ∧ Rg w wr (.slice (some ⟨go, 0, none⟩) k cap) k k gi (fun z => base (l.take i) k z)) (fun v5 _ => l.length - (intOf v5).toNat)
   case atStart => exact ⟨0, Nat.zero_le _, rfl, HR2.out⟩
   case round =>
    clear HR2
    obtain ⟨i, hi, rfl, hR⟩ := hrel
    have HR := Lib.hid hR
    clear hR
    have r1 := (HR.out.bl.cell (World.block_lt_of_cell? w _ HP1.out)).trans HP1.out
    go_wp2_with fail
    with_reducible refine (rM_c g A1 l.length c1 _ r1).mono ?_
    rintro e w1 ⟨rfl, rfl⟩
    by_cases hlt : i < l.length
    ·have di : decide (i < l.length) = true := decide_eq_true hlt
     obtain ⟨ad, rfl, e1, e2⟩ := edge_at HE.out hlt
     have hfit := HF.out.fit _ (List.getElem_mem hlt)
     obtain ⟨x, hx⟩ : ∃ x : Nat, l[i].f0 = (x : Int) := ⟨l[i].f0.toNat, by omega⟩
     obtain ⟨y, hy⟩ : ∃ y : Nat, l[i].f1 = (y : Int) := ⟨l[i].f1.toNat, by omega⟩
     rw [hx] at e1
     rw [hy] at e2
     have hxn : x < k := by omega
     have hyn : y < k := by omega
     have q1 := (HR.out.bl.cell (World.block_lt_of_cell? w _ e1)).trans e1
     have q2 := (HR.out.bl.cell (World.block_lt_of_cell? w _ e2)).trans e2
     have q3 := HR.out.row hxn
     obtain ⟨q4, f4⟩ := HR.out.bit hxn hyn
     have dx : decide ((x : Int) < (k : Int)) = true := decide_eq_true (by omega)
     have dy : decide ((y : Int) < (k : Int)) = true := decide_eq_true (by omega)
     have hR3 := HR.out.set (x := x) (b := y) hxn
     have hb3 : ∀ z, z < k → (if z = x then (base (l.take i) k x).set y true else base (l.take i) k z) = base (l.take (i + 1)) k z := fun z hz => by
      unfold base
      rw [List.take_succ_eq_append_getElem hlt, List.foldl_append]
      show _ = b1 z _ l[i]
      unfold b1
      rw [hx, hy, Int.toNat_natCast, Int.toNat_natCast]
      by_cases e : z = x
      ·subst e; simp only [if_true]
      ·rw [if_neg e, if_neg (fun q => e q.symm)]
     have HR3 := Lib.hid (hR3.congr hb3)
     clear hR3 hb3 hfit e1 e2 hx hy
     go_wp2
     refine start_ (n := 21) (S := fun w' => w'.cell? ⟨g, 1, none⟩ = some (.slice (some ad) l.length c1) ∧ w'.cell? (ad.add (i * 2)) = some (.int .i64 (x : Int)) ∧ w'.cell? ⟨(ad.add (i * 2)).block, (ad.add (i * 2)).off + 1, none⟩ = some (.int .i64 (y : Int)) ∧ w'.cell? ⟨go, x, none⟩ = some (.slice (some ⟨gi x, 0, none⟩) k k)) (ds := [20]) #[false,false,false,false,false,false,false,false,false,false,false,false,false,false,false,false,false,false,false,false,false] (by kernel_rfl) rfl rfl ⟨r1, q1, q2, q3⟩ (fun hHeld => ?_)
     refine pure_ (i := 0) (N := some 27) (v := ?_) (a' := ?_) #[true,false,false,false,false,false,false,false,false,false,false,false,false,false,false,false,false,false,false,false,false] rfl rfl (by kernel_rfl) (fun _ _ _ h => h) (Or.inl ⟨by rfl, ?_⟩) ?_ ?_
     rotate_left
     ·intro w'
      go_simp
      with_reducible rfl
     rotate_left
     ·simp only [Act.put, List.setIfInBounds_toArray, List.set_cons_zero, List.set_cons_succ, i64_w, i32_w]
      rfl
     refine pure_ (i := 1) (N := some 28) (v := ?_) (a' := ?_) #[true,true,false,false,false,false,false,false,false,false,false,false,false,false,false,false,false,false,false,false,false] rfl rfl (by kernel_rfl) (fun _ _ _ h => h) (Or.inl ⟨by rfl, ?_⟩) ?_ ?_
     rotate_left
     ·intro w'
      go_simp
      with_reducible rfl
     rotate_left
     ·simp only [Act.put, List.setIfInBounds_toArray, List.set_cons_zero, List.set_cons_succ, i64_w, i32_w]
      rfl
     refine pure_ (i := 2) (N := some 29) (v := ?_) (a' := ?_) #[true,true,true,false,false,false,false,false,false,false,false,false,false,false,false,false,false,false,false,false,false] rfl rfl (by kernel_rfl) (fun _ _ _ h => h) (Or.inl ⟨by rfl, ?_⟩) ?_ ?_
     rotate_left
     ·intro w'
      go_simp
      with_reducible rfl
     rotate_left
     ·simp only [Act.put, List.setIfInBounds_toArray, List.set_cons_zero, List.set_cons_succ, i64_w, i32_w]
      rfl
     refine pure_ (i := 3) (N := some 30) (v := ?_) (a' := ?_) #[true,true,true,true,false,false,false,false,false,false,false,false,false,false,false,false,false,false,false,false,false] rfl rfl (by kernel_rfl) (fun _ _ _ h => h) (Or.inl ⟨by rfl, ?_⟩) ?_ ?_
     rotate_left
     ·intro w'
      go_simp
      with_reducible rfl
     rotate_left
     ·simp only [Act.put, List.setIfInBounds_toArray, List.set_cons_zero, List.set_cons_succ, i64_w, i32_w]
      rfl
     refine pure_ (i := 5) (N := some 32) (v := ?_) (a' := ?_) #[true,true,true,true,false,true,false,false,false,false,false,false,false,false,false,false,false,false,false,false,false] rfl rfl (by kernel_rfl) (fun _ _ _ h => h) (Or.inl ⟨by rfl, ?_⟩) ?_ ?_
     rotate_left
     ·intro w'
      go_simp
      with_reducible rfl
     rotate_left
     ·simp only [Act.put, List.setIfInBounds_toArray, List.set_cons_zero, List.set_cons_succ, i64_w, i32_w]
      rfl
     refine pure_ (i := 11) (N := some 38) (v := ?_) (a' := ?_) #[true,true,true,true,false,true,false,false,false,false,false,true,false,false,false,false,false,false,false,false,false] rfl rfl (by kernel_rfl) (fun _ _ _ h => h) (Or.inl ⟨by rfl, ?_⟩) ?_ ?_
     rotate_left
     ·intro w'
      go_simp
      with_reducible rfl
     rotate_left
     ·simp only [Act.put, List.setIfInBounds_toArray, List.set_cons_zero, List.set_cons_succ, i64_w, i32_w]
      rfl
     refine pure_ (i := 12) (N := some 39) (v := ?_) (a' := ?_) #[true,true,true,true,false,true,false,false,false,false,false,true,true,false,false,false,false,false,false,false,false] rfl rfl (by kernel_rfl) (fun _ _ _ h => h) (Or.inl ⟨by rfl, ?_⟩) ?_ ?_
     rotate_left
     ·intro w'
      go_simp
      with_reducible rfl
     rotate_left
     ·simp only [Act.put, List.setIfInBounds_toArray, List.set_cons_zero, List.set_cons_succ, i64_w, i32_w]
      rfl
     refine pure_ (i := 13) (N := some 40) (v := ?_) (a' := ?_) #[true,true,true,true,false,true,false,false,false,false,false,true,true,true,false,false,false,false,false,false,false] rfl rfl (by kernel_rfl) (fun _ _ _ h => h) (Or.inl ⟨by rfl, ?_⟩) ?_ ?_
     rotate_left
     ·intro w'
      go_simp
      with_reducible rfl
     rotate_left
     ·simp only [Act.put, List.setIfInBounds_toArray, List.set_cons_zero, List.set_cons_succ, i64_w, i32_w]
      rfl
     refine pure_ (i := 15) (N := some 42) (v := ?_) (a' := ?_) #[true,true,true,true,false,true,false,false,false,false,false,true,true,true,false,true,false,false,false,false,false] rfl rfl (by kernel_rfl) (fun _ _ _ h => h) (Or.inl ⟨by rfl, ?_⟩) ?_ ?_
     rotate_left
     ·intro w'
      go_simp
      with_reducible rfl
     rotate_left
     ·simp only [Act.put, List.setIfInBounds_toArray, List.set_cons_zero, List.set_cons_succ, i64_w, i32_w]
      rfl
     refine take_ (i := 4) (N := some 31) (v := ?_) (a' := ?_) #[true,true,true,true,true,true,false,false,false,false,false,true,true,true,false,true,false,false,false,false,false] rfl rfl (by kernel_rfl) (fun _ _ _ h => h) (Or.inl ⟨by rfl, ?_⟩) hHeld ?_ ?_
     rotate_left
     ·rintro w' ⟨s0, s1, s2, s3⟩
      go_simp
      with_reducible rfl
     rotate_left
     ·simp only [Act.put, List.setIfInBounds_toArray, List.set_cons_zero, List.set_cons_succ, i64_w, i32_w]
      rfl
     refine pure_ (i := 6) (N := some 33) (v := ?_) (a' := ?_) #[true,true,true,true,true,true,true,false,false,false,false,true,true,true,false,true,false,false,false,false,false] rfl rfl (by kernel_rfl) (fun _ _ _ h => h) (Or.inl ⟨by rfl, ?_⟩) ?_ ?_
     rotate_left
     ·intro w'
      go_simp
      with_reducible rfl
     rotate_left
     ·simp only [Act.put, List.setIfInBounds_toArray, List.set_cons_zero, List.set_cons_succ, i64_w, i32_w]
      rfl
     refine pure_ (i := 7) (N := some 34) (v := ?_) (a' := ?_) #[true,true,true,true,true,true,true,true,false,false,false,true,true,true,false,true,false,false,false,false,false] rfl rfl (by kernel_rfl) (fun _ _ _ h => h) (Or.inl ⟨by rfl, ?_⟩) ?_ ?_
     rotate_left
     ·intro w'
      go_simp
      with_reducible rfl
     rotate_left
     ·simp only [Act.put, List.setIfInBounds_toArray, List.set_cons_zero, List.set_cons_succ, i64_w, i32_w]
      rfl
     refine take_ (i := 8) (N := some 35) (v := ?_) (a' := ?_) #[true,true,true,true,true,true,true,true,true,false,false,true,true,true,false,true,false,false,false,false,false] rfl rfl (by kernel_rfl) (fun _ _ _ h => h) (Or.inl ⟨by rfl, ?_⟩) hHeld ?_ ?_
     rotate_left
     ·rintro w' ⟨s0, s1, s2, s3⟩
      go_simp
      with_reducible rfl
     rotate_left
     ·simp only [Act.put, List.setIfInBounds_toArray, List.set_cons_zero, List.set_cons_succ, i64_w, i32_w]
      rfl
     refine pure_ (i := 9) (N := some 36) (v := ?_) (a' := ?_) #[true,true,true,true,true,true,true,true,true,true,false,true,true,true,false,true,false,false,false,false,false] rfl rfl (by kernel_rfl) (fun _ _ _ h => h) (Or.inl ⟨by rfl, ?_⟩) ?_ ?_
     rotate_left
     ·intro w'
      go_simp
      with_reducible rfl
     rotate_left
     ·simp only [Act.put, List.setIfInBounds_toArray, List.set_cons_zero, List.set_cons_succ, i64_w, i32_w]
      rfl
     refine take_ (i := 10) (N := some 37) (v := ?_) (a' := ?_) #[true,true,true,true,true,true,true,true,true,true,true,true,true,true,false,true,false,false,false,false,false] rfl rfl (by kernel_rfl) (fun _ _ _ h => h) (Or.inl ⟨by rfl, ?_⟩) hHeld ?_ ?_
     rotate_left
     ·rintro w' ⟨s0, s1, s2, s3⟩
      go_simp
      with_reducible rfl
     rotate_left
     ·simp only [Act.put, List.setIfInBounds_toArray, List.set_cons_zero, List.set_cons_succ, i64_w, i32_w]
      rfl
     refine take_ (i := 14) (N := some 41) (v := ?_) (a' := ?_) #[true,true,true,true,true,true,true,true,true,true,true,true,true,true,true,true,false,false,false,false,false] rfl rfl (by kernel_rfl) (fun _ _ _ h => h) (Or.inl ⟨by rfl, ?_⟩) hHeld ?_ ?_
     rotate_left
     ·rintro w' ⟨s0, s1, s2, s3⟩
      go_simp
      with_reducible rfl
     rotate_left
     ·simp only [Act.put, List.setIfInBounds_toArray, List.set_cons_zero, List.set_cons_succ, i64_w, i32_w]
      rfl
     refine pure_ (i := 16) (N := some 43) (v := ?_) (a' := ?_) #[true,true,true,true,true,true,true,true,true,true,true,true,true,true,true,true,true,false,false,false,false] rfl rfl (by kernel_rfl) (fun _ _ _ h => h) (Or.inl ⟨by rfl, ?_⟩) ?_ ?_
     rotate_left
     ·intro w'
      go_simp
      with_reducible rfl
     rotate_left
     ·simp only [Act.put, List.setIfInBounds_toArray, List.set_cons_zero, List.set_cons_succ, i64_w, i32_w]
      rfl
     refine pure_ (i := 17) (N := some 44) (v := ?_) (a' := ?_) #[true,true,true,true,true,true,true,true,true,true,true,true,true,true,true,true,true,true,false,false,false] rfl rfl (by kernel_rfl) (fun _ _ _ h => h) (Or.inl ⟨by rfl, ?_⟩) ?_ ?_
     rotate_left
     ·intro w'
      go_simp
      with_reducible rfl
     rotate_left
     ·simp only [Act.put, List.setIfInBounds_toArray, List.set_cons_zero, List.set_cons_succ, i64_w, i32_w]
      rfl
     refine take_ (i := 18) (N := some 45) (v := ?_) (a' := ?_) #[true,true,true,true,true,true,true,true,true,true,true,true,true,true,true,true,true,true,true,false,false] rfl rfl (by kernel_rfl) (fun _ _ _ h => h) (Or.inl ⟨by rfl, ?_⟩) hHeld ?_ ?_
     rotate_left
     ·rintro w' ⟨s0, s1, s2, s3⟩
      go_simp
      with_reducible rfl
     rotate_left
     ·simp only [Act.put, List.setIfInBounds_toArray, List.set_cons_zero, List.set_cons_succ, i64_w, i32_w]
      rfl
     refine pure_ (i := 19) (N := some 46) (v := ?_) (a' := ?_) #[true,true,true,true,true,true,true,true,true,true,true,true,true,true,true,true,true,true,true,true,false] rfl rfl (by kernel_rfl) (fun _ _ _ h => h) (Or.inl ⟨by rfl, ?_⟩) ?_ ?_
     rotate_left
     ·intro w'
      go_simp
      with_reducible rfl
     rotate_left
     ·simp only [Act.put, List.setIfInBounds_toArray, List.set_cons_zero, List.set_cons_succ, i64_w, i32_w]
      rfl
     refine last_ (i := 20) (N := none) #[true,true,true,true,true,true,true,true,true,true,true,true,true,true,true,true,true,true,true,true,true] rfl rfl (by kernel_rfl) (by decide) (fun K hK => ?_)
     refine skip_ (w1 := ?_) (by rfl) rfl ?_ ?_
     rotate_left
     ·go_simp
      rfl
     refine hK.out _ _ ?_
     clear hK K
     refine done_ (by kernel_rfl) ?_
     have HR4 := Lib.hid (HR3.out.below (below_drew (Below.refl _ _)))
     go_wp2
     exact ⟨⟨i + 1, by omega, by go_num, HR4.out⟩, by simp [intOf]; omega⟩
    ·have di : decide (i < l.length) = false := decide_eq_false hlt
     obtain rfl : i = l.length := by omega
     go_wp2
     have HR0 := Lib.hid (HR.out.congr (R' := fun z => rr l 0 (base l k z)) (fun z _ => by rw [List.take_length]; rfl))
     clear HR r1
     go_loopw [6] (fun v6 wr => ∃ ρ : Nat, ρ ≤ k ∧ v6 = .int .i64 ρ ∧ Rg w wr (.slice (some ⟨go, 0, none⟩) k cap) k k gi (fun z => rr l ρ (base l k z))) (fun v6 _ => k - (intOf v6).toNat)
     case atStart => exact ⟨0, Nat.zero_le _, rfl, HR0.out⟩
     case round =>
      clear HR0
      obtain ⟨ρ, hρ, rfl, hR⟩ := hrel
      have HR := Lib.hid hR
      clear hR
      have r0 := (HR.out.bl.cell (World.block_lt_of_cell? w _ HP0.out)).trans HP0.out
      go_wp2_with fail
      with_reducible refine (rN_c g k _ r0).mono ?_
      rintro e w1 ⟨rfl, rfl⟩
      by_cases hρk : ρ < k
      ·have dρ : decide (ρ < k) = true := decide_eq_true hρk
       go_wp2
       have HR1 := Lib.hid (HR.out.congr (R' := fun z => if z < 0 then rr l (ρ + 1) (base l k z) else rr l ρ (base l k z)) (fun z _ => by rw [if_neg (by omega)]))
       clear HR r0
       go_loopw [7] (fun v7 wr => ∃ a : Nat, a ≤ k ∧ v7 = .int .i64 a ∧ Rg w wr (.slice (some ⟨go, 0, none⟩) k cap) k k gi (fun z => if z < a then rr l (ρ + 1) (base l k z) else rr l ρ (base l k z))) (fun v7 _ => k - (intOf v7).toNat)
       case atStart => exact ⟨0, Nat.zero_le _, rfl, HR1.out⟩
       case round =>
        clear HR1
        obtain ⟨a, ha, rfl, hR⟩ := hrel
        have HR := Lib.hid hR
        clear hR
        have r0 := (HR.out.bl.cell (World.block_lt_of_cell? w _ HP0.out)).trans HP0.out
        go_wp2_with fail
        with_reducible refine (rN_c g k _ r0).mono ?_
        rintro e w1 ⟨rfl, rfl⟩
        by_cases hak : a < k
        ·have da : decide (a < k) = true := decide_eq_true hak
         go_wp2
         have HR1 := Lib.hid (HR.out.congr (R' := fun z => if z = a then (l.take 0).foldl rs (rr l ρ (base l k a)) else if z < a then rr l (ρ + 1) (base l k z) else rr l ρ (base l k z)) (fun z _ => by
          by_cases e : z = a
          ·subst e; rw [if_neg (Nat.lt_irrefl _), if_pos rfl]; rfl
          ·rw [if_neg e]))
         clear HR r0
         go_loopw [8] (fun v8 wr => ∃ i : Nat, i ≤ l.length ∧ v8 = .int .i64 i ∧ Rg w wr (.slice (some ⟨go, 0, none⟩) k cap) k k gi (fun z => if z = a then (l.take i).foldl rs (rr l ρ (base l k a)) else if z < a then rr l (ρ + 1) (base l k z) else rr l ρ (base l k z))) (fun v8 _ => l.length - (intOf v8).toNat)
         case atStart => exact ⟨0, Nat.zero_le _, rfl, HR1.out⟩
         case round =>
          clear HR1
          obtain ⟨i, hi, rfl, hR⟩ := hrel
          have HR := Lib.hid hR
          clear hR
          have r1 := (HR.out.bl.cell (World.block_lt_of_cell? w _ HP1.out)).trans HP1.out
          go_wp2_with fail
          with_reducible refine (rM_c g A1 l.length c1 _ r1).mono ?_
          rintro e w1 ⟨rfl, rfl⟩
          by_cases hlt : i < l.length
          ·have di : decide (i < l.length) = true := decide_eq_true hlt
           obtain ⟨ad, rfl, e1, e2⟩ := edge_at HE.out hlt
           have hfit := HF.out.fit _ (List.getElem_mem hlt)
           obtain ⟨x, hx⟩ : ∃ x : Nat, l[i].f0 = (x : Int) := ⟨l[i].f0.toNat, by omega⟩
           obtain ⟨y, hy⟩ : ∃ y : Nat, l[i].f1 = (y : Int) := ⟨l[i].f1.toNat, by omega⟩
           rw [hx] at e1
           rw [hy] at e2
           have hxn : x < k := by omega
           have hyn : y < k := by omega
           have q1 := (HR.out.bl.cell (World.block_lt_of_cell? w _ e1)).trans e1
           have q2 := (HR.out.bl.cell (World.block_lt_of_cell? w _ e2)).trans e2
           have q3 := HR.out.row hak
           obtain ⟨q5, f5⟩ := HR.out.bit hak hxn
           obtain ⟨q4, f4⟩ := HR.out.bit hak hyn
           rw [if_pos rfl] at q4 q5
           obtain ⟨bx, hbx⟩ : ∃ b, b = bt ((l.take i).foldl rs (rr l ρ (base l k a))) x := ⟨_, rfl⟩
           rw [← hbx] at q5
           have dx : decide ((x : Int) < (k : Int)) = true := decide_eq_true (by omega)
           have dy : decide ((y : Int) < (k : Int)) = true := decide_eq_true (by omega)
           have da2 : decide ((a : Int) < (k : Int)) = true := decide_eq_true (by omega)
           have hst : (l.take (i + 1)).foldl rs (rr l ρ (base l k a)) = if bx = true then ((l.take i).foldl rs (rr l ρ (base l k a))).set y true else (l.take i).foldl rs (rr l ρ (base l k a)) := by
            rw [List.take_succ_eq_append_getElem hlt, List.foldl_append]
            show rs _ l[i] = _
            unfold rs
            rw [hx, hy, Int.toNat_natCast, Int.toNat_natCast, hbx]
            rfl
           cases bx with
           | true =>
            rw [if_pos rfl] at hst
            have HST := Lib.hid hst
            clear hst hbx hfit e1 e2 hx hy
            go_wp2
            go_quiet (fail)
            have hRq := HR.out.below (pw_below_drewN (Below.refl _ _) nq)
            have r1' : (w1.drewN nq).cell? ⟨g, 1, none⟩ = some (.slice (some ad) l.length c1) := r1
            have q2' : (w1.drewN nq).cell? ⟨(ad.add (i * 2)).block, (ad.add (i * 2)).off + 1, none⟩ = some (.int .i64 (y : Int)) := q2
            clear r1 q1 q2 q3 q5 f5 q4 f4
            generalize w1.drewN nq = W5 at hRq r1' q2' ⊢
            have r1 := r1'
            have q2 := q2'
            have q3 := hRq.row hak
            obtain ⟨q4, f4⟩ := hRq.bit hak hyn
            rw [if_pos rfl] at q4
            have HR3 := Lib.hid ((hRq.set (x := a) (b := y) hak).congr (R' := fun z => if z = a then (l.take (i + 1)).foldl rs (rr l ρ (base l k a)) else if z < a then rr l (ρ + 1) (base l k z) else rr l ρ (base l k z)) (fun z _ => by
             by_cases e : z = a
             ·subst e; rw [if_pos rfl, if_pos rfl, if_pos rfl, HST.out]
             ·rw [if_neg e, if_neg e, if_neg e]))
            clear hRq r1' q2' HR
            go_wp2
            refine start_ (n := 14) (S := fun w' => w'.cell? ⟨g, 1, none⟩ = some (.slice (some ad) l.length c1) ∧ w'.cell? ⟨(ad.add (i * 2)).block, (ad.add (i * 2)).off + 1, none⟩ = some (.int .i64 (y : Int)) ∧ w'.cell? ⟨go, a, none⟩ = some (.slice (some ⟨gi a, 0, none⟩) k k)) (ds := [13]) #[false,false,false,false,false,false,false,false,false,false,false,false,false,false] (by kernel_rfl) rfl rfl ⟨r1, q2, q3⟩ (fun hHeld => ?_)
            refine pure_ (i := 0) (N := some 79) (v := ?_) (a' := ?_) #[true,false,false,false,false,false,false,false,false,false,false,false,false,false] rfl rfl (by kernel_rfl) (fun _ _ _ h => h) (Or.inl ⟨by rfl, ?_⟩) ?_ ?_
            rotate_left
            ·intro w'
             go_simp
             with_reducible rfl
            rotate_left
            ·simp only [Act.put, List.setIfInBounds_toArray, List.set_cons_zero, List.set_cons_succ, i64_w, i32_w]
             rfl
            refine pure_ (i := 1) (N := some 80) (v := ?_) (a' := ?_) #[true,true,false,false,false,false,false,false,false,false,false,false,false,false] rfl rfl (by kernel_rfl) (fun _ _ _ h => h) (Or.inl ⟨by rfl, ?_⟩) ?_ ?_
            rotate_left
            ·intro w'
             go_simp
             with_reducible rfl
            rotate_left
            ·simp only [Act.put, List.setIfInBounds_toArray, List.set_cons_zero, List.set_cons_succ, i64_w, i32_w]
             rfl
            refine pure_ (i := 2) (N := some 81) (v := ?_) (a' := ?_) #[true,true,true,false,false,false,false,false,false,false,false,false,false,false] rfl rfl (by kernel_rfl) (fun _ _ _ h => h) (Or.inl ⟨by rfl, ?_⟩) ?_ ?_
            rotate_left
            ·intro w'
             go_simp
             with_reducible rfl
            rotate_left
            ·simp only [Act.put, List.setIfInBounds_toArray, List.set_cons_zero, List.set_cons_succ, i64_w, i32_w]
             rfl
            refine pure_ (i := 4) (N := some 83) (v := ?_) (a' := ?_) #[true,true,true,false,true,false,false,false,false,false,false,false,false,false] rfl rfl (by kernel_rfl) (fun _ _ _ h => h) (Or.inl ⟨by rfl, ?_⟩) ?_ ?_
            rotate_left
            ·intro w'
             go_simp
             with_reducible rfl
            rotate_left
            ·simp only [Act.put, List.setIfInBounds_toArray, List.set_cons_zero, List.set_cons_succ, i64_w, i32_w]
             rfl
            refine pure_ (i := 5) (N := some 84) (v := ?_) (a' := ?_) #[true,true,true,false,true,true,false,false,false,false,false,false,false,false] rfl rfl (by kernel_rfl) (fun _ _ _ h => h) (Or.inl ⟨by rfl, ?_⟩) ?_ ?_
            rotate_left
            ·intro w'
             go_simp
             with_reducible rfl
            rotate_left
            ·simp only [Act.put, List.setIfInBounds_toArray, List.set_cons_zero, List.set_cons_succ, i64_w, i32_w]
             rfl
            refine pure_ (i := 6) (N := some 85) (v := ?_) (a' := ?_) #[true,true,true,false,true,true,true,false,false,false,false,false,false,false] rfl rfl (by kernel_rfl) (fun _ _ _ h => h) (Or.inl ⟨by rfl, ?_⟩) ?_ ?_
            rotate_left
            ·intro w'
             go_simp
             with_reducible rfl
            rotate_left
            ·simp only [Act.put, List.setIfInBounds_toArray, List.set_cons_zero, List.set_cons_succ, i64_w, i32_w]
             rfl
            refine pure_ (i := 8) (N := some 87) (v := ?_) (a' := ?_) #[true,true,true,false,true,true,true,false,true,false,false,false,false,false] rfl rfl (by kernel_rfl) (fun _ _ _ h => h) (Or.inl ⟨by rfl, ?_⟩) ?_ ?_
            rotate_left
            ·intro w'
             go_simp
             with_reducible rfl
            rotate_left
            ·simp only [Act.put, List.setIfInBounds_toArray, List.set_cons_zero, List.set_cons_succ, i64_w, i32_w]
             rfl
            refine take_ (i := 3) (N := some 82) (v := ?_) (a' := ?_) #[true,true,true,true,true,true,true,false,true,false,false,false,false,false] rfl rfl (by kernel_rfl) (fun _ _ _ h => h) (Or.inl ⟨by rfl, ?_⟩) hHeld ?_ ?_
            rotate_left
            ·rintro w' ⟨s0, s1, s2⟩
             go_simp
             with_reducible rfl
            rotate_left
            ·simp only [Act.put, List.setIfInBounds_toArray, List.set_cons_zero, List.set_cons_succ, i64_w, i32_w]
             rfl
            refine take_ (i := 7) (N := some 86) (v := ?_) (a' := ?_) #[true,true,true,true,true,true,true,true,true,false,false,false,false,false] rfl rfl (by kernel_rfl) (fun _ _ _ h => h) (Or.inl ⟨by rfl, ?_⟩) hHeld ?_ ?_
            rotate_left
            ·rintro w' ⟨s0, s1, s2⟩
             go_simp
             with_reducible rfl
            rotate_left
            ·simp only [Act.put, List.setIfInBounds_toArray, List.set_cons_zero, List.set_cons_succ, i64_w, i32_w]
             rfl
            refine pure_ (i := 9) (N := some 88) (v := ?_) (a' := ?_) #[true,true,true,true,true,true,true,true,true,true,false,false,false,false] rfl rfl (by kernel_rfl) (fun _ _ _ h => h) (Or.inl ⟨by rfl, ?_⟩) ?_ ?_
            rotate_left
            ·intro w'
             go_simp
             with_reducible rfl
            rotate_left
            ·simp only [Act.put, List.setIfInBounds_toArray, List.set_cons_zero, List.set_cons_succ, i64_w, i32_w]
             rfl
            refine pure_ (i := 10) (N := some 89) (v := ?_) (a' := ?_) #[true,true,true,true,true,true,true,true,true,true,true,false,false,false] rfl rfl (by kernel_rfl) (fun _ _ _ h => h) (Or.inl ⟨by rfl, ?_⟩) ?_ ?_
            rotate_left
            ·intro w'
             go_simp
             with_reducible rfl
            rotate_left
            ·simp only [Act.put, List.setIfInBounds_toArray, List.set_cons_zero, List.set_cons_succ, i64_w, i32_w]
             rfl
            refine take_ (i := 11) (N := some 90) (v := ?_) (a' := ?_) #[true,true,true,true,true,true,true,true,true,true,true,true,false,false] rfl rfl (by kernel_rfl) (fun _ _ _ h => h) (Or.inl ⟨by rfl, ?_⟩) hHeld ?_ ?_
            rotate_left
            ·rintro w' ⟨s0, s1, s2⟩
             go_simp
             with_reducible rfl
            rotate_left
            ·simp only [Act.put, List.setIfInBounds_toArray, List.set_cons_zero, List.set_cons_succ, i64_w, i32_w]
             rfl
            refine pure_ (i := 12) (N := some 91) (v := ?_) (a' := ?_) #[true,true,true,true,true,true,true,true,true,true,true,true,true,false] rfl rfl (by kernel_rfl) (fun _ _ _ h => h) (Or.inl ⟨by rfl, ?_⟩) ?_ ?_
            rotate_left
            ·intro w'
             go_simp
             with_reducible rfl
            rotate_left
            ·simp only [Act.put, List.setIfInBounds_toArray, List.set_cons_zero, List.set_cons_succ, i64_w, i32_w]
             rfl
            refine last_ (i := 13) (N := none) #[true,true,true,true,true,true,true,true,true,true,true,true,true,true] rfl rfl (by kernel_rfl) (by decide) (fun K hK => ?_)
            refine skip_ (w1 := ?_) (by rfl) rfl ?_ ?_
            rotate_left
            ·go_simp
             rfl
            refine hK.out _ _ ?_
            clear hK K
            refine done_ (by kernel_rfl) ?_
            have HR4 := Lib.hid (HR3.out.below (below_drew (Below.refl _ _)))
            go_wp2
            exact ⟨⟨i + 1, by omega, by go_num, HR4.out⟩, by simp [intOf]; omega⟩
           | false =>
            rw [if_neg (by simp)] at hst
            have HR3 := Lib.hid (HR.out.congr (R' := fun z => if z = a then (l.take (i + 1)).foldl rs (rr l ρ (base l k a)) else if z < a then rr l (ρ + 1) (base l k z) else rr l ρ (base l k z)) (fun z _ => by rw [hst]))
            clear hst hbx hfit e1 e2 hx hy
            go_wp2
            go_quiet (fail)
            go_wp2
            exact ⟨⟨i + 1, by omega, by go_num, HR3.out.below (pw_below_drewN (Below.refl _ _) _)⟩, by simp [intOf]; omega⟩
          ·have di : decide (i < l.length) = false := decide_eq_false hlt
           obtain rfl : i = l.length := by omega
           go_wp2
           exact ⟨⟨a + 1, by omega, by go_num, HR.out.congr (fun z _ => by
            by_cases e : z = a
            ·subst e; rw [if_pos rfl, if_pos (by omega), List.take_length]; rfl
            ·rw [if_neg e]
             by_cases q : z < a
             ·rw [if_pos q, if_pos (by omega)]
             ·rw [if_neg q, if_neg (by omega)])⟩, by simp [intOf]; omega⟩
        ·have da : decide (a < k) = false := decide_eq_false hak
         obtain rfl : a = k := by omega
         go_wp2
         exact ⟨⟨ρ + 1, by omega, by go_num, HR.out.congr (fun z hz => by rw [if_pos hz])⟩, by simp [intOf]; omega⟩
      ·have dρ : decide (ρ < k) = false := decide_eq_false hρk
       obtain rfl : ρ = k := by omega
       have HR1 := Lib.hid (HR.out.congr (R' := ways l ρ) (fun z _ => rr_ways HF.out.fit))
       have hcap := cap_le HR.out.ot
       go_wp2
       go_ret
       exact ⟨go, cap, gi, hcap, rfl, HR1.out⟩
end Go.Proofs.Ytkpaefeaplgnmaa.G
end
section
/- The walk of GraphMore. -/
set_option linter.unusedSimpArgs false
set_option linter.unusedVariables false
namespace Go.Proofs.Ytkpaefeaplgnmaa.G
open Go.RowKit Go.Shelf Go.Proofs.Ytkpaefeaplgnmaa.PA Go.Proofs.Ytkpaefeaplgnmaa.G Go.Proofs.Ytkpaefeaplgnmaa.Mp Go.Proofs.YtkpaefeaplgnmaaW.PrintWords Go.Proofs.YtkpaefeaplgnmaaW.PrintLast Go.Proofs.YtkpaefeaplgnmaaW.PrintMore

theorem C_take {w : World} {A : Option Addr} {l : List S53} (h : Kd.C k53 w A l.length l) : Kd.C k53 w A (l.take 32).length (l.take 32) := by
  refine ⟨rfl, Nat.le_trans (by simp; omega) h.2.1, fun hp => ?_⟩
  obtain ⟨ad, rfl, hc⟩ := h.2.2 (by simp at hp; omega)
  refine ⟨ad, rfl, fun j p hj => hc j p ?_⟩
  rw [List.getElem?_take] at hj
  split at hj
  · exact hj
  · cases hj
theorem ref_chk (n : Int) (l : List S53) (hl : l.length ≤ 100) : ∃ k, reticuleref03_Check.f k n l = some (chk n l) := by
  have loop : ∀ (d k i : Nat), l.length - i = d → i ≤ l.length → i ≤ bad n l → d < k → reticuleref03_Check.l0 k n l (i : Int) = some (if bad n l < l.length then ((bad n l : Int), 11) else (0, 0)) := by
    intro d
    induction d with
    | zero =>
      intro k i h0 h1 hb h2
      obtain ⟨k, rfl⟩ : ∃ m, k = m + 1 := ⟨k - 1, by omega⟩
      simp only [reticuleref03_Check.l0]
      rw [if_neg (by omega), if_neg (by omega)]
    | succ d ih =>
      intro k i h0 h1 hb h2
      obtain ⟨k, rfl⟩ : ∃ m, k = m + 1 := ⟨k - 1, by omega⟩
      have hi : i < l.length := by omega
      simp only [reticuleref03_Check.l0]
      rw [if_pos (by omega), if_pos (by omega), rd53 hi, w64_succ (by omega)]
      cases hf : fit n l[i] with
      | false =>
        have hbd := bad_at hi hb hf
        rw [hbd, if_pos hi]
        unfold fit at hf
        by_cases c1 : l[i].f0 < 0
        · rw [if_pos c1]
        · rw [if_neg c1]
          by_cases c2 : l[i].f0 ≥ n
          · rw [if_pos c2]
          · rw [if_neg c2]
            by_cases c3 : l[i].f1 < 0
            · rw [if_pos c3]
            · rw [if_neg c3]
              by_cases c4 : l[i].f1 ≥ n
              · rw [if_pos c4]
              · simp only [Bool.and_eq_false_iff, decide_eq_false_iff_not] at hf
                omega
      | true =>
        have hbd := bad_past hi hb hf
        simp only [fit, Bool.and_eq_true, decide_eq_true_eq] at hf
        rw [if_neg (by omega), if_neg (by omega), if_neg (by omega), if_neg (by omega)]
        exact ih k (i + 1) (by omega) (by omega) hbd (by omega)
  refine ⟨l.length + 1 + 1, ?_⟩
  have hl0 := loop l.length (l.length + 1) 0 (by omega) (by omega) (by omega) (by omega)
  unfold reticuleref03_Check.f chk
  generalize l.length + 1 = F at hl0 ⊢
  by_cases c1 : n < 1
  · rw [if_pos c1, if_pos (.inl c1)]
    simp only [reticuleref03_Check.j0]
    rfl
  · rw [if_neg c1]
    by_cases c2 : n > 12
    · rw [if_pos c2, if_pos (.inr (.inl c2))]
      simp only [reticuleref03_Check.j0]
      rfl
    · rw [if_neg c2]
      simp only [reticuleref03_Check.j0]
      by_cases c3 : (l.length : Int) > 30
      · rw [if_pos (by simpa using c3), if_pos (by omega)]
      · rw [if_neg (by simpa using c3), if_neg (by omega)]
        exact hl0
theorem rM0 (w : World) : Calls Try.prog 55 #[.pointer none] w fun e w' => e = .returned (.int .i64 0) ∧ w' = w := by
  go_enter Try.func55, Try.ntmps55
  go_wp2
  go_ret
  exact ⟨rfl, rfl⟩
theorem rN0 (w : World) : Calls Try.prog 54 #[.pointer none] w fun e w' => e = .returned (.int .i64 0) ∧ w' = w := by
  go_enter Try.func54, Try.ntmps54
  go_wp2
  go_ret
  exact ⟨rfl, rfl⟩
theorem rcheck (n : Int) (A : Option Addr) (c : Nat) (l : List S53) (w : World) (hr : Kd.C k53 w A l.length l) (hc : l.length ≤ c) (hl : l.length ≤ 100) :
    Calls Try.prog 19 #[.int .i64 n, .slice A l.length c] w fun e w' => e = .returned (.tuple #[.int .i64 (chk n l).1, .int .i64 (chk n l).2]) ∧ Below w.heap.size w w' := by
  obtain ⟨k, hk⟩ := ref_chk n l hl
  refine (reticuleref03_Check.calls k n A c l _ _ w hr hc hk).mono ?_
  rintro e w' ⟨rfl, hd⟩
  exact ⟨rfl, hd.below⟩
theorem rnew_no (n : Int) (A : Option Addr) (c : Nat) (l : List S53) (w : World) (hr : Kd.C k53 w A l.length l) (hc : l.length ≤ c) (hl : l.length ≤ 100) (h : okG n l = false) :
    Calls Try.prog 20 #[.int .i64 n, .slice A l.length c] w fun e w' => e = .returned (.pointer none) ∧ Below w.heap.size w w' := by
  have H := Lib.hid (ok_err h)
  have HR := Lib.hid hr
  clear h hr
  go_enter Try.func20, Try.ntmps20
  go_wp2_with fail
  refine (rcheck n A c l _ HR.out hc hl).mono ?_
  rintro e w1 ⟨rfl, hb1⟩
  rw [H.out]
  have HB := Lib.hid hb1
  clear hb1
  go_wp2
  go_ret
  exact ⟨rfl, HB.out⟩
set_option maxHeartbeats 1000000 in
theorem rnew_ok (n : Nat) (A : Option Addr) (c : Nat) (l : List S53) (w : World) (hr : Kd.C k53 w A l.length l) (hc : l.length ≤ c) (hl : l.length ≤ 100) (h : chk n l = (0, 0)) :
    Calls Try.prog 20 #[.int .i64 n, .slice A l.length c] w fun e w' => ∃ w0 g, e = .returned (.pointer (some ⟨g, 0, none⟩)) ∧ Below w.heap.size w w0 ∧ IsS66 w0 w' g n l ∧ Below w0.heap.size w0 w' := by
  have H := Lib.hid h
  have HR := Lib.hid hr
  clear h hr
  go_enter Try.func20, Try.ntmps20
  go_wp2_with fail
  refine (rcheck n A c l _ HR.out hc hl).mono ?_
  rintro e w1 ⟨rfl, hb1⟩
  rw [H.out]
  have HB := Lib.hid hb1
  have HR1 := Lib.hid (Kd.C_below HR.out hb1)
  clear hb1
  go_wp2_with (at_builtin; refine Kd.R_append_rows k53 (Rr := k53.K (w1.alloc (.cells #[] 53))) (w0 := w1) w1.heap.size rfl (.tmp 16) (.tmp 17) 22 53 _ 16 rfl Try.underlying22 info53 rfl (by decide) (by decide) (.slice (some ⟨w1.heap.size, 0, none⟩) 0 0) [] l A l.length c (fun _ => True) (fun _ => False) rfl rfl (R_empty k53 53 w1 w1.heap.size (Nat.le_refl _)) ?c1 ?c2 (fun k h => h.elim) (fun _ _ => trivial) ((Below.refl _ _).alloc (Nat.le_refl _) _) (by simp) ?c3 ?_; (case c1 => exact Kd.C_below HR1.out ((Below.refl _ _).alloc (Nat.le_refl _) _)); (case c2 => (intro x cs h; rw [k53_open h]; exact k53_mkM _ _ _ _)); (case c3 => (simp; omega)); intro v1 w2 h1 hb2 _ _; rw [List.nil_append] at h1; obtain ⟨A2, c2, rfl, hc2, hC2⟩ := C_of_R h1; have H1 := Lib.hid hC2; have HB2 := Lib.hid hb2; clear h1 hb2 hC2)
  go_ret
  exact ⟨w2, w2.heap.size, rfl, below_step HB.out HB2.out, IsS66.new w2 w2 A2 c2 n l (Below.refl _ _) H1.out, (Below.refl _ _).alloc (Nat.le_refl _) _⟩
theorem sameI {w : World} {ok ok' : Nat → Prop} {x y : Value} {xs : List Int} {base base' : Nat} (hx : Kd.R (Kd.int .i64) 3 w base ok x xs) (hy : Kd.R (Kd.int .i64) 3 w base' ok' y xs) : Calls Try.prog 17 #[x, y] w fun e w' => e = .returned (.bool true) ∧ Below w.heap.size w w' := by
  obtain ⟨A1, c1, rfl, hc1, h1⟩ := C_of_R (d := Kd.int .i64) (Kd.R_mono hx (fun _ _ => trivial))
  obtain ⟨A2, c2, rfl, hc2, h2⟩ := C_of_R (d := Kd.int .i64) (Kd.R_mono hy (fun _ _ => trivial))
  obtain ⟨q, hq⟩ := same_ints xs xs (by have := h1.2.1; omega)
  refine (reticuleref01_SameInts.calls q A1 c1 xs A2 c2 xs true w h1 hc1 h2 hc2 (by simpa using hq)).mono ?_
  rintro e w' ⟨rfl, hd⟩
  exact ⟨rfl, hd.below⟩

theorem rJoined0 (w : World) : Calls Try.prog 32 #[.pointer none] w fun e w' => e = .returned (.slice none 0 0) ∧ w' = w := by
  go_enter Try.func32, Try.ntmps32
  go_wp2
  go_loop [3, 4] (fun v3 v4 => v3 = .slice none 0 0 ∧ v4 = .int .i64 0) (fun _ _ => 0)
  case atStart => exact ⟨rfl, rfl⟩
  case round =>
    obtain ⟨rfl, rfl⟩ := hrel
    go_wp2_with fail
    refine (rN0 w).mono ?_
    rintro e w' ⟨rfl, rfl⟩
    go_wp2
    go_loop [5] (fun v5 => v5 = .int .i64 0) (fun _ => 0)
    case atStart => rfl
    case round =>
      obtain rfl := hrel
      go_wp2_with fail
      refine (rN0 _).mono ?_
      rintro e w' ⟨rfl, rfl⟩
      go_wp2
      go_ret
      exact ⟨rfl, rfl⟩
theorem rReaches0 (w : World) : Calls Try.prog 34 #[.pointer none] w fun e w' => e = .returned (.slice none 0 0) ∧ w' = w := by
  go_enter Try.func34, Try.ntmps34
  go_wp2
  go_loop [3, 4] (fun v3 v4 => v3 = .slice none 0 0 ∧ v4 = .int .i64 0) (fun _ _ => 0)
  case atStart => exact ⟨rfl, rfl⟩
  case round =>
    obtain ⟨rfl, rfl⟩ := hrel
    go_wp2_with fail
    refine (rN0 w).mono ?_
    rintro e w' ⟨rfl, rfl⟩
    go_wp2
    go_loop [5] (fun v5 => v5 = .int .i64 0) (fun _ => 0)
    case atStart => rfl
    case round =>
      obtain rfl := hrel
      go_wp2_with fail
      refine (rM0 _).mono ?_
      rintro e w' ⟨rfl, rfl⟩
      go_wp2
      go_loop [6] (fun v6 => v6 = .int .i64 0) (fun _ => 0)
      case atStart => rfl
      case round =>
        obtain rfl := hrel
        go_wp2_with fail
        refine (rN0 _).mono ?_
        rintro e w' ⟨rfl, rfl⟩
        go_wp2
        go_ret
        exact ⟨rfl, rfl⟩
theorem joined0 (w : World) : Calls Try.prog 31 #[.pointer none] w fun e w' => e = .returned (.slice none 0 0) ∧ w' = w := by
  go_enter Try.func31, Try.ntmps31
  go_wp2
  go_ret
  exact ⟨rfl, rfl⟩
theorem reaches0 (w : World) : Calls Try.prog 30 #[.pointer none] w fun e w' => e = .returned (.slice none 0 0) ∧ w' = w := by
  go_enter Try.func30, Try.ntmps30
  go_wp2
  go_ret
  exact ⟨rfl, rfl⟩
/-! ### the same rows -/
def Few (X : List (List Bool)) : Prop := X.length ≤ 100 ∧ ∀ r ∈ X, r.length ≤ 100
theorem rdL {X : List (List Bool)} {i : Nat} (h : i < X.length) : rd_L5 X (i : Int) = X[i] := by simp [rd_L5, h]
theorem sr1 {X : List (List Bool)} (hX : Few X) {i : Nat} (hi : i < X.length) : ∀ (e j k : Nat), j + e = X[i].length → e < k → reticuleref03_SameReaches.l1 k X X (i : Int) (j : Int) = reticuleref03_SameReaches.l0 (k - e - 1) X X ((i + 1 : Nat) : Int)
  | 0, j, k, h, hk => by
    obtain ⟨k, rfl⟩ : ∃ m, k = m + 1 := ⟨k - 1, by omega⟩
    have := hX.1
    conv => lhs; unfold reticuleref03_SameReaches.l1
    rw [if_pos (by omega), if_pos (by omega), rdL hi, if_neg (by omega), ww (by omega) (by omega), show ((i : Int) + 1) = ((i + 1 : Nat) : Int) by omega]
    rfl
  | e + 1, j, k, h, hk => by
    obtain ⟨k, rfl⟩ : ∃ m, k = m + 1 := ⟨k - 1, by omega⟩
    have := hX.1
    have h2 := hX.2 _ (List.getElem_mem hi)
    conv => lhs; unfold reticuleref03_SameReaches.l1
    rw [if_pos (by omega), if_pos (by omega), rdL hi, if_pos (by omega), if_pos (by omega), if_pos (by omega), if_pos (by omega), if_neg (by simp), ww (by omega) (by omega), show ((j : Int) + 1) = ((j + 1 : Nat) : Int) by omega, sr1 hX hi e (j + 1) k (by omega) (by omega)]
    rw [show k + 1 - (e + 1) - 1 = k - e - 1 by omega]
theorem sr0 {X : List (List Bool)} (hX : Few X) : ∀ (d i k : Nat), i + d = X.length → d * 103 < k → reticuleref03_SameReaches.l0 k X X (i : Int) = some true
  | 0, i, k, h, hk => by
    obtain ⟨k, rfl⟩ : ∃ m, k = m + 1 := ⟨k - 1, by omega⟩
    unfold reticuleref03_SameReaches.l0
    rw [if_neg (by omega)]
  | d + 1, i, k, h, hk => by
    obtain ⟨k, rfl⟩ : ∃ m, k = m + 1 := ⟨k - 1, by omega⟩
    have hi : i < X.length := by omega
    have h2 := hX.2 _ (List.getElem_mem hi)
    conv => lhs; unfold reticuleref03_SameReaches.l0
    rw [if_pos (by omega), if_pos (by omega), if_pos (by omega), if_pos rfl, show (0 : Int) = ((0 : Nat) : Int) from rfl, sr1 hX hi X[i].length 0 k (by omega) (by omega)]
    exact sr0 hX d (i + 1) _ (by omega) (by omega)
theorem sr_f {X : List (List Bool)} (hX : Few X) : reticuleref03_SameReaches.f 10400 X X = some true := by
  unfold reticuleref03_SameReaches.f
  rw [if_pos rfl]
  exact sr0 hX X.length 0 10400 (by omega) (by have := hX.1; omega)
/-- All rows. -/
noncomputable def wm (l : List S53) (n : Nat) : List (List Bool) := (List.range n).map (ways l n)
theorem wm_few (l : List S53) {n : Nat} (hn : n ≤ 12) : Few (wm l n) := ⟨by simp [wm]; omega, fun r hr => by
  obtain ⟨a, _, rfl⟩ := List.mem_map.1 hr
  simp [ways]
  omega⟩
theorem add0 (g b : Nat) : (⟨g, 0, none⟩ : Addr).add b = ⟨g, b, none⟩ := by
  unfold Addr.add
  by_cases h : b = 0
  · subst h; simp
  · simp [h]
theorem C_rows {w : World} {go n cap : Nat} {gi : Nat → Nat} {l : List S53} (hn : n ≤ 12) (h1 : ∀ x, x < n → w.cell? ⟨go, x, none⟩ = some (.slice (some ⟨gi x, 0, none⟩) n n)) (h2 : ∀ x, x < n → ∀ b, b < n → w.cell? ⟨gi x, b, none⟩ = some (.bool (bt (ways l n x) b))) : Kd.C (Kd.slice 4 Kd.bool) w (some ⟨go, 0, none⟩) (wm l n).length (wm l n) := by
  have hwl : ∀ x, (ways l n x).length = n := fun x => by simp [ways]
  refine ⟨rfl, by simp [wm]; omega, fun _ => ⟨_, rfl, fun j p hj => ?_⟩⟩
  obtain ⟨hjl, rfl⟩ := List.getElem?_eq_some_iff.1 hj
  have hjn : j < n := by simpa [wm] using hjl
  have hp : (wm l n)[j] = ways l n j := by simp [wm]
  rw [hp]
  refine ⟨[.slice (some ⟨gi j, 0, none⟩) n n], rfl, ⟨some ⟨gi j, 0, none⟩, n, by rw [hwl], by rw [hwl]; exact Nat.le_refl _, rfl, by rw [hwl]; omega, fun _ => ⟨_, rfl, fun b p hb => ?_⟩⟩, fun t u hu => ?_⟩
  · obtain ⟨hbl, rfl⟩ := List.getElem?_eq_some_iff.1 hb
    rw [hwl] at hbl
    refine ⟨[.bool (ways l n j)[b]], rfl, rfl, fun t u hu => ?_⟩
    cases t with
    | zero =>
      cases hu
      have := h2 j hjn b hbl
      rw [show bt (ways l n j) b = (ways l n j)[b] by unfold bt; rw [List.getD_eq_getElem?_getD, List.getElem?_eq_getElem]; rfl] at this
      rw [show (Kd.bool).sz = 1 from rfl, Nat.mul_one, Nat.add_zero, add0]
      exact this
    | succ t => simp at hu
  · cases t with
    | zero =>
      cases hu
      have := h1 j hjn
      rw [show (Kd.slice 4 Kd.bool).sz = 1 from rfl, Nat.mul_one, Nat.add_zero, add0]
      exact this
    | succ t => simp at hu
end Go.Proofs.Ytkpaefeaplgnmaa.G
end
section
/- The law GraphMore, walked. -/
set_option linter.unusedSimpArgs false
set_option linter.unusedVariables false
namespace Go.Proofs.Ytkpaefeaplgnmaa.G
open Go.RowKit Go.Shelf Go.Proofs.Ytkpaefeaplgnmaa.PA Go.Proofs.Ytkpaefeaplgnmaa.Mp Go.Proofs.YtkpaefeaplgnmaaW.PrintWords Go.Proofs.YtkpaefeaplgnmaaW.PrintLast Go.Proofs.YtkpaefeaplgnmaaW.PrintMore

theorem rdistinct_ok (A : Option Addr) (c : Nat) (l : List S53) (w : World) (hr : Kd.C k53 w A l.length l) (hc : l.length ≤ c) (hl : l.length ≤ 1000) : Calls Try.prog 36 #[.slice A l.length c] w fun e w' => ∃ v, e = .returned v ∧ Kd.R k53 53 w' w.heap.size (fun _ => True) v (dl [] l) ∧ Below w.heap.size w w' := by
  obtain ⟨k, hk⟩ := dist_f l hl
  refine (reticuleref03_Distinct.calls k A c l (dl [] l) w hr hc hk).mono ?_
  rintro e w' ⟨v, rfl, h1, h2⟩
  exact ⟨v, rfl, h1, h2⟩
theorem sE {X : List S53} {x y : Value} {w : World} {b1 b2 : Nat} (hx : Kd.R k53 53 w b1 (fun _ => True) x X) (hy : Kd.R k53 53 w b2 (fun _ => True) y X) (hl : X.length ≤ 1000) : Calls Try.prog 28 #[x, y] w fun e w' => e = .returned (.bool true) ∧ Below w.heap.size w w' := by
  obtain ⟨A1, c1, rfl, hc1, h1⟩ := C_of_R hx
  obtain ⟨A2, c2, rfl, hc2, h2⟩ := C_of_R hy
  refine (reticuleref03_SameEdges.calls 1101 A1 c1 X A2 c2 X true w h1 hc1 h2 hc2 ?_).mono ?_
  · unfold reticuleref03_SameEdges.f
    rw [if_pos rfl]
    have key : ∀ (d i k : Nat), i + d = X.length → d < k → reticuleref03_SameEdges.l0 k X X (i : Int) = some true := by
      intro d
      induction d with
      | zero =>
        intro i k h hk
        obtain ⟨k, rfl⟩ : ∃ m, k = m + 1 := ⟨k - 1, by omega⟩
        simp only [reticuleref03_SameEdges.l0]
        rw [if_neg (by omega)]
      | succ d ih =>
        intro i k h hk
        obtain ⟨k, rfl⟩ : ∃ m, k = m + 1 := ⟨k - 1, by omega⟩
        simp only [reticuleref03_SameEdges.l0]
        rw [if_pos (by omega), if_pos (by omega), if_pos (by omega), if_neg (by simp), ww (by omega) (by omega), show ((i : Int) + 1) = ((i + 1 : Nat) : Int) by omega]
        exact ih (i + 1) k (by omega) (by omega)
    exact key X.length 0 1101 (by omega) (by omega)
  · rintro e w' ⟨rfl, hd⟩
    exact ⟨rfl, hd.below⟩
theorem dl_len : ∀ (l acc : List S53), (dl acc l).length ≤ acc.length + l.length
  | [], acc => by rw [dl]; simp
  | e :: l, acc => by
    rw [dl]
    split
    · have := dl_len l acc
      simp; omega
    · have := dl_len l (acc ++ [e])
      simp at this ⊢; omega
theorem sR {l : List S53} {n : Nat} (hn : n ≤ 12) {go go' cap cap' : Nat} {gi gi' : Nat → Nat} {w w1 w2 : World} (h1 : Rw w1 w go n n gi (ways l n)) (hc1 : n ≤ cap) (h2 : Rg w2 w (.slice (some ⟨go', 0, none⟩) n cap') n n gi' (ways l n)) (hc2 : n ≤ cap') : Calls Try.prog 33 #[.slice (some ⟨go, 0, none⟩) n cap, .slice (some ⟨go', 0, none⟩) n cap'] w fun e w' => e = .returned (.bool true) ∧ Below w.heap.size w w' := by
  have C1 := C_rows (l := l) (cap := cap) hn (fun x hx => h1.cellRow hx (Nat.le_refl _)) (fun x hx b hb => (h1.cellBit hx hb).1)
  have C2 := C_rows (l := l) (cap := cap') hn (fun x hx => h2.row hx) (fun x hx b hb => (h2.bit hx hb).1)
  have hl : (wm l n).length = n := by simp [wm]
  have := reticuleref03_SameReaches.calls 10400 _ cap (wm l n) _ cap' (wm l n) true w C1 (by omega) C2 (by omega) (sr_f (wm_few l hn))
  rw [hl] at this
  refine this.mono ?_
  rintro e w' ⟨rfl, hd⟩
  exact ⟨rfl, hd.below⟩
theorem sR0 (w : World) : Calls Try.prog 33 #[.slice none 0 0, .slice none 0 0] w fun e w' => e = .returned (.bool true) ∧ Below w.heap.size w w' := by
  have hC : Kd.C (Kd.slice 4 Kd.bool) w none ([] : List (List Bool)).length [] := ⟨rfl, by simp, fun h => absurd h (by simp)⟩
  refine (reticuleref03_SameReaches.calls 10400 none 0 [] none 0 [] true w hC (Nat.le_refl _) hC (Nat.le_refl _) (sr_f ⟨by simp, fun r hr => by cases hr⟩)).mono ?_
  rintro e w' ⟨rfl, hd⟩
  exact ⟨rfl, hd.below⟩
theorem sI0 (w : World) : Calls Try.prog 17 #[.slice none 0 0, .slice none 0 0] w fun e w' => e = .returned (.bool true) ∧ Below w.heap.size w w' :=
  sameI (base := 0) (base' := 0) (ok := fun _ => True) (ok' := fun _ => True) (xs := []) (Kd.R_nil _ _ _ _ _) (Kd.R_nil _ _ _ _ _)
theorem rjoined_ok {l : List S53} {n g : Nat} {out : List Int} (w0 w : World) (hi : IsS66 w0 w g n l) (hb : Below w0.heap.size w0 w) (hf : Fits n l) (hJ : Jo l n n out) : Calls Try.prog 32 #[.pointer (some ⟨g, 0, none⟩)] w fun e w' => ∃ v, e = .returned v ∧ Kd.R (Kd.int .i64) 3 w' w.heap.size (fun _ => True) v out ∧ IsS66 w0 w' g n l ∧ Below w0.heap.size w0 w' ∧ KeepBut w w' g none := by
  obtain ⟨k, hk⟩ := joined_f hf.fit (by have := hf.few; omega) hf.top hJ
  refine (reticuleref03_Graph_Joined.calls k g n l out n w0 w hi hb hk).mono ?_
  rintro e w' ⟨v, rfl, h⟩
  exact ⟨v, rfl, h⟩
theorem Ls.row {w0 W : World} {go n : Nat} {out : List Int} (h : Ls w0 W go n out) (hn : n ≤ 1000) : Kd.R (Kd.int .i64) 3 W w0.heap.size (fun _ => True) (.slice (some ⟨go, 0, none⟩) n n) out := by
  have hl := h.len
  have := own_all (w := W) (b := w0.heap.size) h.ago h.ot (by omega)
  rw [hl] at this
  exact R_of_own (l := out) (by rw [hl]; exact this)
set_option maxHeartbeats 8000000 in
theorem more_ok (w : World) (n : Int) (A : Option Addr) (c : Nat) (l : List S53) (hc : l.length ≤ c) (hr : Kd.C k53 w A l.length l) (hwf : ∀ x ∈ l, (Lit.int .i64 x.f0).wf = true ∧ (Lit.int .i64 x.f1).wf = true) :
    Calls Try.prog 9 #[.int .i64 n, .slice A l.length c] w fun e w' => e = .returned (.bool true) ∧ Below w.heap.size w w' := by
  have hlt := List.length_take_le 32 l
  have hlc : (l.take 32).length ≤ c := by rw [List.length_take]; omega
  obtain ⟨l', hl'⟩ : ∃ l', l' = l.take 32 := ⟨_, rfl⟩
  have hr' := C_take hr
  have hwf' : ∀ x ∈ l', (Lit.int .i64 x.f0).wf = true ∧ (Lit.int .i64 x.f1).wf = true := fun x hx => hwf x (List.mem_of_mem_take (hl' ▸ hx))
  rw [← hl'] at hr' hlt hlc
  have HR := Lib.hid hr'
  have HW := Lib.hid hwf'
  have HFEW := fun w => few_ok A c l w hc
  rw [← hl'] at HFEW
  have hdl := dl_len l' []
  clear hr hr' hl' hwf hwf'
  cases hok : okG n l' with
  | false =>
    have HOK := Lib.hid hok
    clear hok
    go_enter Try.func9, Try.ntmps9
    go_wp2_with fail
    with_reducible refine (HFEW _).mono ?_
    rintro e w1 ⟨rfl, rfl⟩
    go_wp2_with fail
    with_reducible refine (new_no n A c l' _ HR.out (by omega) HOK.out).mono ?_
    rintro e w4 ⟨rfl, hb⟩
    have HB4 := Lib.hid hb
    have HR4 := Lib.hid (Kd.C_below HR.out hb)
    clear hb
    go_wp2_with fail
    with_reducible refine (rnew_no n A c l' _ HR4.out hlc (by omega) HOK.out).mono ?_
    rintro e w5 ⟨rfl, hb⟩
    have HB5 := Lib.hid (below_step HB4.out hb)
    have HR5 := Lib.hid (Kd.C_below HR4.out hb)
    clear hb
    go_wp2_with fail
    with_reducible refine (live_ok _).mono ?_
    rintro e w6 ⟨rfl, hb⟩
    have HB6 := Lib.hid (below_step HB5.out hb)
    have HR6 := Lib.hid (Kd.C_below HR5.out hb)
    clear hb
    go_wp2_with fail
    with_reducible refine (joined0 _).mono ?_
    rintro e w7 ⟨rfl, rfl⟩
    go_wp2_with fail
    with_reducible refine (rJoined0 _).mono ?_
    rintro e w7 ⟨rfl, rfl⟩
    go_wp2_with fail
    with_reducible refine (sI0 _).mono ?_
    rintro e w7 ⟨rfl, hb⟩
    have HB7 := Lib.hid (below_step HB6.out hb)
    have HR7 := Lib.hid (Kd.C_below HR6.out hb)
    clear hb
    go_wp2_with fail
    with_reducible refine (reaches0 _).mono ?_
    rintro e w8 ⟨rfl, rfl⟩
    go_wp2_with fail
    with_reducible refine (rReaches0 _).mono ?_
    rintro e w8 ⟨rfl, rfl⟩
    go_wp2_with fail
    with_reducible refine (sR0 _).mono ?_
    rintro e w8 ⟨rfl, hb⟩
    have HB8 := Lib.hid (below_step HB7.out hb)
    have HR8 := Lib.hid (Kd.C_below HR7.out hb)
    clear hb
    go_wp2_with fail
    with_reducible refine (distinct_ok A c l' _ HR8.out hlc (by omega) HW.out).mono ?_
    rintro e w9 ⟨v9, rfl, h9, hb⟩
    have HB9 := Lib.hid (below_step HB8.out hb)
    have HR9 := Lib.hid (Kd.C_below HR8.out hb)
    have H9 := Lib.hid h9
    clear hb h9
    go_wp2_with fail
    with_reducible refine (rdistinct_ok A c l' _ HR9.out hlc (by omega)).mono ?_
    rintro e w10 ⟨v10, rfl, h10, hb⟩
    have HB10 := Lib.hid (below_step HB9.out hb)
    have H9' := Lib.hid (Kd.R_below H9.out hb)
    have H10 := Lib.hid h10
    clear hb h10
    go_wp2_with fail
    with_reducible refine (sE H9'.out H10.out (by simp at hdl; omega)).mono ?_
    rintro e w11 ⟨rfl, hb⟩
    have HB11 := Lib.hid (below_step HB10.out hb)
    clear hb
    go_wp2
    go_ret
    exact ⟨rfl, HB11.out⟩
  | true =>
    obtain ⟨N, rfl, hf, hck⟩ := ok_fits hok
    have HF := Lib.hid hf
    have HCK0 := Lib.hid hck
    have h12 := hf.top
    clear hf hck hok
    go_enter Try.func9, Try.ntmps9
    go_wp2_with fail
    with_reducible refine (HFEW _).mono ?_
    rintro e w1 ⟨rfl, rfl⟩
    go_wp2_with fail
    with_reducible refine (new_ok N A c l' _ HR.out HF.out HCK0.out).mono ?_
    rintro e w2 ⟨g, rfl, hgl, hg, hb⟩
    have HB2 := Lib.hid hb
    have HR2 := Lib.hid (Kd.C_below HR.out hb)
    have HG := Lib.hid hg
    clear hb hg
    go_wp2_with fail
    with_reducible refine (rnew_ok N A c l' _ HR2.out hlc (by omega) HCK0.out).mono ?_
    rintro e w3 ⟨w0, gr, rfl, hb, hi, hb0⟩
    have HB0 := Lib.hid (below_step HB2.out hb)
    have HR0 := Lib.hid (Kd.C_below HR2.out hb)
    have HG0 := Lib.hid (HG.out.below hb)
    have HI3 := Lib.hid hi
    have HC3 := Lib.hid hb0
    clear hb hi hb0
    go_wp2_with fail
    with_reducible refine (live_ok _).mono ?_
    rintro e w4 ⟨rfl, hb⟩
    have HI4 := Lib.hid (HI3.out.below hb)
    have HC4 := Lib.hid (below_step HC3.out hb)
    clear hb
    go_wp2_with fail
    with_reducible refine (joined_ok g N l' _ (HG0.out.below HC4.out) HF.out).mono ?_
    rintro e w5 ⟨gl, out, rfl, hL, hJ⟩
    have hb := hL.bl
    have hgr := HI4.out.lt
    have HI5 := Lib.hid (HI4.out.below hb)
    have HC5 := Lib.hid (below_step HC4.out hb)
    have HL5 := Lib.hid (hL.row (by omega))
    have hgl2 := hL.ago
    have HLb := Lib.hid ((Array.getElem?_eq_some_iff.1 hL.ot).1)
    have HJ := Lib.hid hJ
    clear hb hL hJ
    go_wp2_with fail
    with_reducible refine (rjoined_ok w0 _ HI5.out HC5.out HF.out HJ.out).mono ?_
    rintro e w6 ⟨v6, rfl, h6, hi6, hb6, hk6⟩
    have HI6 := Lib.hid hi6
    have HC6 := Lib.hid hb6
    have H6 := Lib.hid h6
    have HL6 := Lib.hid (Kd.R_step (Kd.R_mono (Kd.R_bound HL5.out) (ok' := fun k => k ≠ gr) (fun k hk => by have := hk.2.1; omega)) (fun k ho hl => hk6.2 k hl ho (by simp)))
    clear hi6 hb6 h6 hk6
    go_wp2_with fail
    with_reducible refine (sameI HL6.out H6.out).mono ?_
    rintro e w7 ⟨rfl, hb⟩
    have HI7 := Lib.hid (HI6.out.below hb)
    have HC7 := Lib.hid (below_step HC6.out hb)
    clear hb
    go_wp2_with fail
    with_reducible refine (reaches_ok g N l' _ (HG0.out.below HC7.out) HF.out).mono ?_
    rintro e w8 ⟨go8, gi8, rfl, hR8⟩
    have HI8 := Lib.hid (HI7.out.below hR8.bl)
    have HC8 := Lib.hid (below_step HC7.out hR8.bl)
    have HR8 := Lib.hid hR8
    clear hR8
    go_wp2_with fail
    with_reducible refine (reachesR_ok w0 _ gr N l' HI8.out HC8.out HF.out).mono ?_
    rintro e w9 ⟨go9, cap9, gi9, hcap9, rfl, hR9⟩
    have HC9 := Lib.hid (below_step HC8.out hR9.bl)
    have HR8' := Lib.hid (HR8.out.kept (fun k hk _ => hR9.bl.block k hk) (below_step HR8.out.bl hR9.bl))
    have HR9 := Lib.hid hR9
    clear hR9
    go_wp2_with fail
    with_reducible refine (sR h12 HR8'.out (Nat.le_refl _) HR9.out hcap9).mono ?_
    rintro e w10 ⟨rfl, hb⟩
    have HC10 := Lib.hid (below_step HC9.out hb)
    clear hb
    go_wp2_with fail
    with_reducible refine (distinct_ok A c l' _ (Kd.C_below HR0.out HC10.out) hlc (by omega) HW.out).mono ?_
    rintro e w11 ⟨v11, rfl, h11, hb⟩
    have HC11 := Lib.hid (below_step HC10.out hb)
    have H11 := Lib.hid h11
    clear hb h11
    go_wp2_with fail
    with_reducible refine (rdistinct_ok A c l' _ (Kd.C_below HR0.out HC11.out) hlc (by omega)).mono ?_
    rintro e w12 ⟨v12, rfl, h12', hb⟩
    have HC12 := Lib.hid (below_step HC11.out hb)
    have H11' := Lib.hid (Kd.R_below H11.out hb)
    have H12 := Lib.hid h12'
    clear hb h12'
    go_wp2_with fail
    with_reducible refine (sE H11'.out H12.out (by simp at hdl; omega)).mono ?_
    rintro e w13 ⟨rfl, hb⟩
    have HC13 := Lib.hid (below_step HC12.out hb)
    clear hb
    go_wp2
    go_ret
    exact ⟨rfl, below_step HB0.out HC13.out⟩
theorem more_w (w : World) (n : Int) (wf : (Lit.int .i64 n).wf = true) (A : Option Addr) (c : Nat) (l : List S53) (hc : l.length ≤ c) (hr : Kd.C k53 w A l.length l) (hg : l.length ≤ maxLen ∧ ∀ x ∈ l, (Lit.int .i64 x.f0).wf = true ∧ (Lit.int .i64 x.f1).wf = true) (hs : l.length * 16 ≤ 140737488351232) :
    Calls Try.prog 9 #[.int .i64 n, .slice A l.length c] w fun e w' => e = .returned (.bool true) ∧ Below w.heap.size w w' := more_ok w n A c l hc hr hg.2
end Go.Proofs.Ytkpaefeaplgnmaa.G
end
