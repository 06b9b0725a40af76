/- Messages that are taken in, in whatever order: plain. -/
import Derived.Test.YthmenclkgngkkaaPo
set_option linter.unusedSimpArgs false
set_option linter.unusedVariables false
namespace Go.Proofs.Ythmenclkgngkkaa.O
open Go.RowKit Go.Proofs.Ythmenclkgngkkaa.M Go.Proofs.Ythmenclkgngkkaa.PA Go.Proofs.Ythmenclkgngkkaa.PB Go.Proofs.YthmenclkgngkkaaW.PrintWords Go.Proofs.YthmenclkgngkkaaW.PrintMore Go.Proofs.YthmenclkgngkkaaW.PrintLast
theorem red_sym {o : Int} (ho : takes o) (x y : Int) : red o x y = red o y x := by
  rcases ho with rfl | rfl | rfl | rfl | rfl <;> simp only [red]
  · simp; unfold wrap64; omega
  · simp; (repeat' split) <;> omega
  · simp; (repeat' split) <;> omega
  · simp; by_cases hx : x = 0 <;> by_cases hy : y = 0 <;> simp [hx, hy]
  · simp; by_cases hx : x = 0 <;> by_cases hy : y = 0 <;> simp [hx, hy]
theorem red_assoc {o : Int} (ho : takes o) (w a x : Int) : red o w (red o a x) = red o (red o w a) x := by
  rw [red_sym ho w (red o a x), red_comm ho, red_sym ho a w]
def dist (acc : List S26) : Prop := acc.Pairwise fun a b => ¬ same a b
theorem dist_perm {a b : List S26} (h : a.Perm b) (hd : dist a) : dist b := (h.pairwise_iff (fun {x y} hxy hyx => hxy ⟨hyx.1.symm, hyx.2.symm⟩)).1 hd
theorem addm_dist (ops : List Int) (m : S26) {acc : List S26} (h : dist acc) : dist (addm ops acc m) := by
  rcases find_same m acc with hno | ⟨j, hj, hs, hf⟩
  · rw [addm_new ops m acc hno]
    unfold dist
    rw [List.pairwise_append]
    exact ⟨h, List.pairwise_singleton _ _, fun a ha b hb => by rw [List.mem_singleton.1 hb]; exact hno a ha⟩
  · rw [addm_old ops m acc j hj hs hf]
    unfold dist
    rw [List.pairwise_iff_getElem]
    intro p q hp hq hpq
    rw [List.length_set] at hp hq
    have hpw := List.pairwise_iff_getElem.1 h p q hp hq hpq
    rw [List.getElem_set, List.getElem_set]
    by_cases e1 : j = p
    · subst e1
      rw [if_pos rfl, if_neg (by omega)]
      exact fun hx => hpw ⟨hs.1.trans hx.1, hs.2.trans hx.2⟩
    · rw [if_neg e1]
      by_cases e2 : j = q
      · subst e2
        rw [if_pos rfl]
        exact fun hx => hpw ⟨hx.1.trans hs.1.symm, hx.2.trans hs.2.symm⟩
      · rw [if_neg e2]; exact hpw
def upm (ops : List Int) (x : S26) (y : Int) : S26 := ⟨x.f0, x.f1, red (opOf ops x) y x.f2⟩
theorem addm_hit (ops : List Int) {x a : S26} (acc : List S26) (h : same a x) : addm ops (a :: acc) x = upm ops x a.f2 :: acc := by rw [addm, if_pos h]; rfl
theorem addm_miss (ops : List Int) {x a : S26} (acc : List S26) (h : ¬ same a x) : addm ops (a :: acc) x = a :: addm ops acc x := by rw [addm, if_neg h]
theorem upm_same {ops : List Int} {x y : S26} {v : Int} : same (upm ops x v) y ↔ same x y := Iff.rfl
theorem same_sym {x y : S26} (h : same x y) : same y x := ⟨h.1.symm, h.2.symm⟩
theorem same_trans {x y z : S26} (h : same x y) (k : same y z) : same x z := ⟨h.1.trans k.1, h.2.trans k.2⟩
theorem addm_perm (ops : List Int) (x : S26) {a b : List S26} (h : a.Perm b) : dist a → (addm ops a x).Perm (addm ops b x) := by
  induction h with
  | nil => exact fun _ => List.Perm.refl _
  | @cons c a b h ih =>
    intro hd
    by_cases hs : same c x
    · rw [addm_hit ops _ hs, addm_hit ops _ hs]; exact h.cons _
    · rw [addm_miss ops _ hs, addm_miss ops _ hs]; exact (ih (List.pairwise_cons.1 hd).2).cons _
  | swap c d l =>
    intro hd
    have hcd := (List.pairwise_cons.1 hd).1 c List.mem_cons_self
    by_cases hd1 : same d x
    · have hc1 : ¬ same c x := fun hc => hcd (same_trans hd1 (same_sym hc))
      rw [addm_hit ops _ hd1, addm_miss ops _ hc1, addm_hit ops _ hd1]
      exact List.Perm.swap _ _ _
    · by_cases hc1 : same c x
      · rw [addm_miss ops _ hd1, addm_hit ops _ hc1, addm_hit ops _ hc1]
        exact List.Perm.swap _ _ _
      · rw [addm_miss ops _ hd1, addm_miss ops _ hc1, addm_miss ops _ hc1, addm_miss ops _ hd1]
        exact List.Perm.swap _ _ _
  | trans h1 h2 ih1 ih2 => exact fun hd => (ih1 hd).trans (ih2 (dist_perm h1 hd))
theorem upm_eq {ops : List Int} {x y : S26} (hx : takes (opOf ops x)) (h : same x y) (v : Int) : upm ops y (red (opOf ops x) v x.f2) = upm ops x (red (opOf ops y) v y.f2) := by
  have ho : opOf ops y = opOf ops x := by unfold opOf; rw [h.2]
  unfold upm
  rw [ho, h.1, h.2, red_comm hx]
theorem addm_swap (ops : List Int) (x y : S26) (hx : takes (opOf ops x)) : ∀ a, (addm ops (addm ops a x) y).Perm (addm ops (addm ops a y) x)
  | [] => by
    show (addm ops [x] y).Perm (addm ops [y] x)
    by_cases h : same x y
    · have ho : opOf ops y = opOf ops x := by unfold opOf; rw [h.2]
      rw [addm_hit ops _ h, addm_hit ops _ (same_sym h)]
      unfold upm
      rw [ho, h.1, h.2, red_sym hx]
    · rw [addm_miss ops _ h, addm_miss ops _ (fun h' => h (same_sym h'))]
      exact List.Perm.swap _ _ _
  | a :: acc => by
    by_cases h1 : same a x
    · by_cases h2 : same a y
      · have hxy : same x y := same_trans (same_sym h1) h2
        rw [addm_hit ops _ h1, addm_hit ops _ h2, addm_hit ops _ (upm_same.2 hxy), addm_hit ops _ (upm_same.2 (same_sym hxy))]
        show (upm ops y (red (opOf ops x) a.f2 x.f2) :: acc).Perm (upm ops x (red (opOf ops y) a.f2 y.f2) :: acc)
        rw [upm_eq hx hxy]
      · have hxy : ¬ same x y := fun h => h2 (same_trans h1 h)
        rw [addm_hit ops _ h1, addm_miss ops _ h2, addm_miss ops _ (fun h => hxy (upm_same.1 h)), addm_hit ops _ h1]
    · by_cases h2 : same a y
      · have hyx : ¬ same y x := fun h => h1 (same_trans h2 h)
        rw [addm_miss ops _ h1, addm_hit ops _ h2, addm_hit ops _ h2, addm_miss ops _ (fun h => hyx (upm_same.1 h))]
      · rw [addm_miss ops acc h1, addm_miss ops acc h2, addm_miss ops _ h2, addm_miss ops _ h1]
        exact (addm_swap ops x y hx acc).cons _
theorem fold_acc (ops : List Int) : ∀ (l a b : List S26), a.Perm b → dist a → (l.foldl (addm ops) a).Perm (l.foldl (addm ops) b)
  | [], _, _, h, _ => h
  | m :: l, a, b, h, hd => fold_acc ops l _ _ (addm_perm ops m h hd) (addm_dist ops m hd)
theorem fold_perm (ops : List Int) {l l' : List S26} (h : l.Perm l') : (∀ m ∈ l, takes (opOf ops m)) → ∀ acc, dist acc → (l.foldl (addm ops) acc).Perm (l'.foldl (addm ops) acc) := by
  induction h with
  | nil => exact fun _ _ _ => List.Perm.refl _
  | cons c h ih => exact fun ho acc hd => ih (fun m hm => ho m (List.mem_cons_of_mem _ hm)) _ (addm_dist ops c hd)
  | swap c d l => exact fun ho acc hd => fold_acc ops l _ _ (addm_swap ops d c (ho d List.mem_cons_self) acc) (addm_dist ops c (addm_dist ops d hd))
  | trans h1 h2 ih1 ih2 => exact fun ho acc hd => (ih1 ho acc hd).trans (ih2 (fun m hm => ho m (h1.mem_iff.2 hm)) acc hd)
theorem comb_perm (ops : List Int) {l l' : List S26} (h : l.Perm l') (ho : ∀ m ∈ l, takes (opOf ops m)) : (comb ops l).Perm (comb ops l') := fold_perm ops h ho [] List.Pairwise.nil
def st (o nd tag : Int) (w : Int) (m : S26) : Int := if m.f0 = nd ∧ m.f1 = tag then red o w m.f2 else w
theorem fold_len (ops : List Int) : ∀ (l acc : List S26), (l.foldl (addm ops) acc).length ≤ acc.length + l.length
  | [], acc => by simp
  | m :: l, acc => by
    have h1 := fold_len ops l (addm ops acc m)
    have h2 := addm_len ops m acc
    simp only [List.foldl_cons, List.length_cons]
    omega
end Go.Proofs.Ythmenclkgngkkaa.O
