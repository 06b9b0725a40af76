/- What workers combine first: plain. -/
import Derived.Test.YthmenclkgngkkaaPr
import Derived.Test.YthmenclkgngkkaaAg
set_option linter.unusedSimpArgs false
set_option linter.unusedVariables false
namespace Go.Proofs.Ythmenclkgngkkaa.O
open Go.RowKit Go.Proofs.Ythmenclkgngkkaa.M Go.Proofs.Ythmenclkgngkkaa.Perm Go.Proofs.Ythmenclkgngkkaa.PA Go.Proofs.Ythmenclkgngkkaa.PB Go.Proofs.YthmenclkgngkkaaW.PrintWords Go.Proofs.YthmenclkgngkkaaW.PrintMore Go.Proofs.YthmenclkgngkkaaW.PrintLast
def tk (ops : List Int) (l : List S26) : Prop := ∀ m ∈ l, takes (opOf ops m)
theorem addm_two (ops : List Int) {m a : S26} (hm : takes (opOf ops m)) (h : same a m) : ∀ acc, addm ops acc (upm ops m a.f2) = addm ops (addm ops acc a) m
  | [] => by
    show [upm ops m a.f2] = addm ops [a] m
    rw [addm_hit ops _ h]
  | c :: acc => by
    by_cases hc : same c a
    · have hcm : same c (upm ops m a.f2) := same_trans hc h
      rw [addm_hit ops _ hcm, addm_hit ops _ hc, addm_hit ops _ (upm_same.2 h)]
      have ho : opOf ops a = opOf ops m := by unfold opOf; rw [h.2]
      have e : upm ops (upm ops m a.f2) c.f2 = upm ops m (upm ops a c.f2).f2 := by
        show (⟨m.f0, m.f1, red (opOf ops m) c.f2 (red (opOf ops m) a.f2 m.f2)⟩ : S26) = ⟨m.f0, m.f1, red (opOf ops m) (red (opOf ops a) c.f2 a.f2) m.f2⟩
        rw [ho, red_assoc hm]
      rw [e]
    · have hcm : ¬ same c (upm ops m a.f2) := fun q => hc (same_trans q (same_sym h))
      have hcm2 : ¬ same c m := fun q => hc (same_trans q (same_sym h))
      rw [addm_miss ops _ hcm, addm_miss ops _ hc, addm_miss ops _ hcm2, addm_two ops hm h acc]
theorem addm_mem (ops : List Int) {m x : S26} : ∀ {b : List S26}, x ∈ addm ops b m → x.f1 = m.f1 ∨ x ∈ b
  | [], h => by
    rw [show addm ops [] m = [m] from rfl] at h
    exact .inl (by rw [List.mem_singleton.1 h])
  | a :: b, h => by
    by_cases hs : same a m
    · rw [addm_hit ops _ hs] at h
      rcases List.mem_cons.1 h with h | h
      · exact .inl (by rw [h]; rfl)
      · exact .inr (List.mem_cons_of_mem _ h)
    · rw [addm_miss ops _ hs] at h
      rcases List.mem_cons.1 h with h | h
      · exact .inr (by rw [h]; exact List.mem_cons_self)
      · rcases addm_mem ops h with h | h
        · exact .inl h
        · exact .inr (List.mem_cons_of_mem _ h)
theorem tk_addm {ops : List Int} {b : List S26} {m : S26} (hb : tk ops b) (hm : takes (opOf ops m)) : tk ops (addm ops b m) := fun x hx => by
  rcases addm_mem ops hx with h | h
  · have : opOf ops x = opOf ops m := by unfold opOf; rw [h]
    rw [this]; exact hm
  · exact hb x h
theorem tk_fold {ops : List Int} : ∀ (l b : List S26), tk ops l → tk ops b → tk ops (l.foldl (addm ops) b)
  | [], _, _, hb => hb
  | m :: l, b, hl, hb => tk_fold l _ (fun x hx => hl x (List.mem_cons_of_mem _ hx)) (tk_addm hb (hl m List.mem_cons_self))
theorem fold_dist {ops : List Int} : ∀ (l b : List S26), dist b → dist (l.foldl (addm ops) b)
  | [], _, hb => hb
  | m :: l, b, hb => fold_dist l _ (addm_dist ops m hb)
theorem fold_addm (ops : List Int) {m : S26} (hm : takes (opOf ops m)) : ∀ (b acc : List S26), tk ops b → dist acc → ((addm ops b m).foldl (addm ops) acc).Perm ((b ++ [m]).foldl (addm ops) acc)
  | [], acc, _, _ => List.Perm.refl _
  | a :: b, acc, hb, hd => by
    have hb2 : tk ops b := fun x hx => hb x (List.mem_cons_of_mem _ hx)
    by_cases hs : same a m
    · rw [addm_hit ops _ hs, List.foldl_cons, addm_two ops hm hs, List.cons_append, List.foldl_cons]
      have hp : (m :: b).Perm (b ++ [m]) := (List.perm_append_singleton m b).symm
      exact fold_perm ops hp (fun x hx => by
        rcases List.mem_cons.1 hx with h | h
        · rw [h]; exact hm
        · exact hb2 x h) _ (addm_dist ops a hd)
    · rw [addm_miss ops _ hs, List.foldl_cons, List.cons_append, List.foldl_cons]
      exact fold_addm ops hm b _ hb2 (addm_dist ops a hd)
theorem comb_comb (ops : List Int) : ∀ (l b acc : List S26), tk ops l → tk ops b → dist acc → ((l.foldl (addm ops) b).foldl (addm ops) acc).Perm ((b ++ l).foldl (addm ops) acc)
  | [], b, acc, _, _, _ => by simp
  | m :: l, b, acc, hl, hb, hd => by
    have hm := hl m List.mem_cons_self
    have hl2 : tk ops l := fun x hx => hl x (List.mem_cons_of_mem _ hx)
    rw [List.foldl_cons]
    refine (comb_comb ops l (addm ops b m) acc hl2 (tk_addm hb hm) hd).trans ?_
    rw [List.foldl_append, show b ++ m :: l = (b ++ [m]) ++ l by simp, List.foldl_append]
    exact fold_acc ops l _ _ (fold_addm ops hm b acc hb hd) (fold_dist _ _ hd)
theorem dist_nil : dist [] := List.Pairwise.nil
theorem workers_comb (ops : List Int) (b0 b1 l z : List S26) (hl : l.Perm (b0 ++ b1)) (ho : tk ops l) (hz : z.Perm (comb ops b1 ++ comb ops b0)) : (comb ops z).Perm (comb ops l) := by
  have h0 : tk ops b0 := fun x hx => ho x (hl.mem_iff.2 (List.mem_append_left _ hx))
  have h1 : tk ops b1 := fun x hx => ho x (hl.mem_iff.2 (List.mem_append_right _ hx))
  have hn : tk ops ([] : List S26) := fun x hx => by cases hx
  have hc1 : tk ops (comb ops b1) := tk_fold _ _ h1 hn
  have hc0 : tk ops (comb ops b0) := tk_fold _ _ h0 hn
  have hzt : tk ops z := fun x hx => by
    rcases List.mem_append.1 (hz.mem_iff.1 hx) with h | h
    · exact hc1 x h
    · exact hc0 x h
  refine (comb_perm ops hz hzt).trans ?_
  have e1 : comb ops (comb ops b1 ++ comb ops b0) = (comb ops b0).foldl (addm ops) ((comb ops b1).foldl (addm ops) []) := by unfold comb; rw [List.foldl_append]
  rw [e1]
  have p1 : ((comb ops b1).foldl (addm ops) []).Perm (b1.foldl (addm ops) []) := comb_comb ops b1 [] [] h1 hn dist_nil
  have d1 : dist ((comb ops b1).foldl (addm ops) []) := fold_dist _ _ dist_nil
  refine (comb_comb ops b0 [] _ h0 hn d1).trans ?_
  rw [List.nil_append]
  refine (fold_acc ops b0 _ _ p1 d1).trans ?_
  rw [← List.foldl_append]
  have hp : (b1 ++ b0).Perm l := (List.perm_append_comm).trans hl.symm
  exact comb_perm ops hp (fun x hx => ho x (hp.mem_iff.1 hx))
theorem all_two (s : Nat → Int) (k : Nat) : Go.Proofs.Ythmenclkgngkkaa.Agg.all 1 0 s (ord 2 k) = wrap64 (s 0 + s 1) := by
  have h : ord 2 k = [0, 1] ∨ ord 2 k = [1, 0] := by
    unfold ord
    have : k % fact 2 = 0 ∨ k % fact 2 = 1 := by show k % 2 = 0 ∨ k % 2 = 1; omega
    rcases this with h | h
    · rw [h]; exact .inl (by decide)
    · rw [h]; exact .inr (by decide)
  unfold Go.Proofs.Ythmenclkgngkkaa.Agg.all
  rcases h with h | h
  · rw [h]
    show red 1 (red 1 0 (s 0)) (s 1) = _
    simp only [red, if_true]
    unfold wrap64; omega
  · rw [h]
    show red 1 (red 1 0 (s 1)) (s 0) = _
    simp only [red, if_true]
    unfold wrap64; omega
theorem all_one (s : Nat → Int) (k : Nat) : Go.Proofs.Ythmenclkgngkkaa.Agg.all 1 0 s (ord 1 k) = wrap64 (s 0) := by
  have h : ord 1 k = [0] := by
    unfold ord
    have : k % fact 1 = 0 := by show k % 1 = 0; omega
    rw [this]; decide
  unfold Go.Proofs.Ythmenclkgngkkaa.Agg.all
  rw [h]
  show red 1 0 (s 0) = _
  simp only [red, if_true]
  unfold wrap64; omega
theorem sum_step {a b t x : Int} (h : wrap64 (a + b) = wrap64 t) : wrap64 (red 1 a x + b) = wrap64 (red 1 t x) ∧ wrap64 (a + red 1 b x) = wrap64 (red 1 t x) := by
  simp only [red, if_true]
  unfold wrap64 at *
  omega
end Go.Proofs.Ythmenclkgngkkaa.O
