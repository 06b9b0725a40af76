/- Plain facts of MailSums. -/
import Derived.Test.YthmenclkgngkkaaPCx3
import Derived.Test.YthmenclkgngkkaaPb
set_option linter.unusedSimpArgs false
set_option linter.unusedVariables false
namespace Go.Proofs.Ythmenclkgngkkaa.M
open Go.RowKit Go.Proofs.Ythmenclkgngkkaa.PA Go.Proofs.Ythmenclkgngkkaa.PB Go.Proofs.Ythmenclkgngkkaa.PC Go.Proofs.YthmenclkgngkkaaW.PrintWords Go.Proofs.YthmenclkgngkkaaW.PrintMore Go.Proofs.YthmenclkgngkkaaW.PrintLast
theorem wsu {i : Nat} (h : i ≤ 2000000000000) : wrap64 ((i : Int) + 1) = ((i + 1 : Nat) : Int) := by unfold wrap64; omega
theorem rd_m {l : List S26} {i : Nat} (h : i < l.length) : rd_T26 l (i : Int) = l[i] := by simp [rd_T26, List.getD, List.getElem?_eq_getElem h]
/-- What a value is that takes a tag's in. -/
def tkn (o tag : Int) : List S26 → Int → Int
  | [], w => w
  | m :: l, w => if m.f1 = tag then tkn o tag l (red o w m.f2) else tkn o tag l w
theorem tk_l0 (o tag : Int) (ho : takes o) (l : List S26) (hl : l.length ≤ 1000) : ∀ (d i k : Nat) (w : Int), i + d = l.length → d + 1 < k → mail_Taken.l0 k w o tag l (l.length : Int) (i : Int) = some (tkn o tag (l.drop i) w, 0)
  | 0, i, k, w, h, hk => by
    obtain ⟨k, rfl⟩ : ∃ m, k = m + 1 := ⟨k - 1, by omega⟩
    simp only [mail_Taken.l0]
    rw [if_neg (by omega), List.drop_eq_nil_of_le (by omega)]
    rfl
  | d + 1, i, k, w, h, hk => by
    obtain ⟨k, rfl⟩ : ∃ m, k = m + 2 := ⟨k - 2, by omega⟩
    have hi : i < l.length := by omega
    simp only [mail_Taken.l0]
    rw [if_pos (by omega), if_pos (by omega), if_pos (by omega), rd_m hi, wsu (by omega), List.drop_eq_getElem_cons hi, tkn, do_red ho]
    simp only [Option.bind_some]
    split
    · exact tk_l0 o tag ho l hl d (i + 1) (k + 1) _ (by omega) (by omega)
    · exact tk_l0 o tag ho l hl d (i + 1) (k + 1) _ (by omega) (by omega)
theorem tk_f (o tag w : Int) (l : List S26) (hl : l.length ≤ 1000) (k : Nat) (hk : 1002 < k) : mail_Taken.f k w o tag l = some (if takes o then (tkn o tag l w, 0) else (0, 2)) := by
  unfold mail_Taken.f
  obtain ⟨k, rfl⟩ : ∃ m, k = m + 1 := ⟨k - 1, by omega⟩
  obtain ⟨f, hf⟩ := reduces_told k o
  rw [hf]
  simp only [Option.bind_some]
  by_cases ho : takes o
  · rw [if_pos (decide_eq_true ho), if_pos ho]
    have := tk_l0 o tag ho l hl l.length 0 (k + 1) w (by omega) (by omega)
    simpa using this
  · rw [if_neg (by rw [decide_eq_false ho]; decide), if_neg ho]
theorem rtk_l0 (o tag : Int) (ho : takes o) (l : List S26) (hl : l.length ≤ 1000) : ∀ (d i k : Nat) (w : Int), i + d = l.length → d + 1 < k → reticuleref21_Taken.l0 k w o tag l (i : Int) = some (tkn o tag (l.drop i) w, 0)
  | 0, i, k, w, h, hk => by
    obtain ⟨k, rfl⟩ : ∃ m, k = m + 1 := ⟨k - 1, by omega⟩
    simp only [reticuleref21_Taken.l0]
    rw [if_neg (by omega), List.drop_eq_nil_of_le (by omega)]
    rfl
  | d + 1, i, k, w, h, hk => by
    obtain ⟨k, rfl⟩ : ∃ m, k = m + 2 := ⟨k - 2, by omega⟩
    have hi : i < l.length := by omega
    simp only [reticuleref21_Taken.l0]
    rw [if_pos (by omega), if_pos (by omega), rd_m hi, wsu (by omega), List.drop_eq_getElem_cons hi, tkn, rdo_red ho]
    simp only [Option.bind_some]
    split
    · exact rtk_l0 o tag ho l hl d (i + 1) (k + 1) _ (by omega) (by omega)
    · exact rtk_l0 o tag ho l hl d (i + 1) (k + 1) _ (by omega) (by omega)
theorem rtk_f (o tag w : Int) (l : List S26) (hl : l.length ≤ 1000) (k : Nat) (hk : 1002 < k) : reticuleref21_Taken.f k w o tag l = some (if takes o then (tkn o tag l w, 0) else (0, 2)) := by
  unfold reticuleref21_Taken.f
  obtain ⟨k, rfl⟩ : ∃ m, k = m + 1 := ⟨k - 1, by omega⟩
  obtain ⟨f, hf⟩ := reduces_told k o
  rw [reduces_same, hf]
  simp only [Option.bind_some]
  by_cases ho : takes o
  · rw [if_pos (decide_eq_true ho), if_pos ho]
    have := rtk_l0 o tag ho l hl l.length 0 (k + 1) w (by omega) (by omega)
    simpa using this
  · rw [if_neg (by rw [decide_eq_false ho]; decide), if_neg ho]
/-! ### The reference's Combined -/
def dist (acc : List S26) : Prop := acc.Pairwise fun a b => ¬ same a b
theorem same_iff {a m : S26} : same a m ↔ a.f0 = m.f0 ∧ a.f1 = m.f1 := Iff.rfl
theorem getE {acc : List S26} {p : Nat} (h : p < acc.length) : rd_T26 acc ((p : Nat) : Int) = acc[p] := rd_m h
/-- None of those from place j on is of the message's node and tag. -/
theorem l3_none (x0 : List S26) (x1 : List Int) (i : Int) (m : S26) (b : Bool) (acc : List S26) (hl : acc.length ≤ 1000) (K : Nat) (r : List S26 × Int)
    (hr : (if b then reticuleref21_Combined.l2 K x0 x1 acc (wrap64 (i + 1)) else reticuleref21_Combined.l2 K x0 x1 (acc ++ [m]) (wrap64 (i + 1))) = some r) :
    ∀ (d j : Nat), j + d = acc.length → (∀ p (hp : p < acc.length), j ≤ p → ¬ same acc[p] m) → reticuleref21_Combined.l3 (K + d + 1) x0 x1 acc i b (j : Int) m.f0 m.f1 m.f2 = some r
  | 0, j, hj, _ => by
    simp only [reticuleref21_Combined.l3]
    rw [if_neg (by omega)]
    cases b
    · rw [if_neg (by decide)] at hr ⊢
      rw [if_pos (by omega)]
      exact hr
    · rw [if_pos rfl] at hr ⊢
      exact hr
  | d + 1, j, hj, hn => by
    have hjl : j < acc.length := by omega
    have ih := l3_none x0 x1 i m b acc hl K r hr d (j + 1) (by omega) (fun p hp hjp => hn p hp (by omega))
    obtain ⟨k1, hk1⟩ : ∃ k1, k1 = K + d + 1 := ⟨_, rfl⟩
    rw [← hk1] at ih
    rw [show K + (d + 1) + 1 = k1 + 1 by omega]
    simp only [reticuleref21_Combined.l3]
    rw [if_pos (by omega), if_pos (by omega), getE hjl, wsu (by omega)]
    by_cases h0 : acc[j].f0 = m.f0
    · rw [if_pos h0, if_neg (fun h1 => hn j hjl (Nat.le_refl _) ⟨h0, h1⟩)]
      exact ih
    · rw [if_neg h0]
      exact ih
theorem l3_some (x0 : List S26) (x1 : List Int) (i : Int) (m : S26) (acc : List S26) (hl : acc.length ≤ 1000) (hd : dist acc) (ht : tg x1 m) (ho : takes (opOf x1 m)) (j0 : Nat) (hj0 : j0 < acc.length) (hs : same acc[j0] m) (K : Nat) (hK : 1 ≤ K) (r : List S26 × Int)
    (hr : reticuleref21_Combined.l2 K x0 x1 (acc.set j0 ⟨m.f0, m.f1, red (opOf x1 m) acc[j0].f2 m.f2⟩) (wrap64 (i + 1)) = some r) :
    ∀ (e j : Nat), j + e = j0 → (∀ p (hp : p < acc.length), p < j0 → ¬ same acc[p] m) → reticuleref21_Combined.l3 (K + (acc.length - j) + 1) x0 x1 acc i false (j : Int) m.f0 m.f1 m.f2 = some r
  | 0, j, hj, _ => by
    obtain rfl : j = j0 := by omega
    obtain ⟨d, hdl⟩ : ∃ d, acc.length - j = d + 1 := ⟨acc.length - j - 1, by omega⟩
    obtain ⟨k1, hk1⟩ : ∃ k1, k1 = K + d + 1 := ⟨_, rfl⟩
    rw [hdl, show K + (d + 1) + 1 = k1 + 1 by omega]
    simp only [reticuleref21_Combined.l3]
    obtain ⟨k2, rfl⟩ : ∃ k2, k1 = k2 + 1 := ⟨k1 - 1, by omega⟩
    have hrd : rd x1 m.f1 = opOf x1 m := by simp [rd, opOf]
    rw [if_pos (by omega), if_pos (by omega), getE hj0, wsu (by omega), if_pos hs.1, if_pos hs.2, if_pos ht.1, if_pos ht.2, hrd, rdo_red ho]
    simp only [Option.bind_some, Int.toNat_natCast]
    rw [hs.1, hs.2, hk1]
    refine l3_none x0 x1 i m true _ (by simpa using hl) K r (by rw [if_pos rfl]; exact hr) d (j + 1) (by simp; omega) (fun p hp hjp => ?_)
    rw [List.getElem_set_ne (by omega)]
    intro hsp
    rw [List.length_set] at hp
    have := List.pairwise_iff_getElem.1 hd j p hj0 hp (by omega)
    exact this ⟨hs.1.trans hsp.1.symm, hs.2.trans hsp.2.symm⟩
  | e + 1, j, hj, hn => by
    have hjl : j < acc.length := by omega
    have ih := l3_some x0 x1 i m acc hl hd ht ho j0 hj0 hs K hK r hr e (j + 1) (by omega) hn
    obtain ⟨k1, hk1⟩ : ∃ k1, k1 = K + (acc.length - (j + 1)) + 1 := ⟨_, rfl⟩
    rw [← hk1] at ih
    rw [show K + (acc.length - j) + 1 = k1 + 1 by omega]
    simp only [reticuleref21_Combined.l3]
    rw [if_pos (by omega), if_pos (by omega), getE hjl, wsu (by omega)]
    by_cases h0 : acc[j].f0 = m.f0
    · rw [if_pos h0, if_neg (fun h1 => hn j hjl (by omega) ⟨h0, h1⟩)]
      exact ih
    · rw [if_neg h0]
      exact ih
theorem addm_dist (ops : List Int) (m : S26) {acc : List S26} (h : dist acc) : dist (addm ops acc m) := by
  rcases find_same m acc with hno | ⟨j, hj, hs, hf⟩
  · rw [addm_new ops m acc hno]
    unfold dist
    rw [List.pairwise_append]
    exact ⟨h, List.pairwise_singleton _ _, fun a ha b hb => by rw [List.mem_singleton.1 hb]; exact hno a ha⟩
  · rw [addm_old ops m acc j hj hs hf]
    unfold dist
    rw [List.pairwise_iff_getElem]
    intro p q hp hq hpq
    rw [List.length_set] at hp hq
    have hpw := List.pairwise_iff_getElem.1 h p q hp hq hpq
    rw [List.getElem_set, List.getElem_set]
    by_cases e1 : j = p
    · subst e1
      rw [if_pos rfl, if_neg (by omega)]
      exact fun hx => hpw ⟨hs.1.trans hx.1, hs.2.trans hx.2⟩
    · rw [if_neg e1]
      by_cases e2 : j = q
      · subst e2
        rw [if_pos rfl]
        exact fun hx => hpw ⟨hx.1.trans hs.1.symm, hx.2.trans hs.2.symm⟩
      · rw [if_neg e2]; exact hpw
theorem l2_any (x0 : List S26) (x1 : List Int) (hl : x0.length ≤ 500) (ht : ∀ m ∈ x0, tg x1 m) (ho : ∀ m ∈ x0, takes (opOf x1 m)) :
    ∀ (d i : Nat) (acc : List S26), i + d = x0.length → dist acc → acc.length ≤ i → ∃ k, 1 ≤ k ∧ reticuleref21_Combined.l2 k x0 x1 acc (i : Int) = some (((x0.drop i).foldl (addm x1) acc).mergeSort le, 0)
  | 0, i, acc, hi, hd, hal => by
    refine ⟨1, Nat.le_refl _, ?_⟩
    simp only [reticuleref21_Combined.l2]
    rw [if_neg (by omega), List.drop_eq_nil_of_le (by omega)]
    unfold reticuleref21_Sorted.f
    rw [if_pos (by omega)]
    rfl
  | d + 1, i, acc, hi, hd, hal => by
    have hil : i < x0.length := by omega
    have hm : x0[i] ∈ x0 := List.getElem_mem hil
    have hal2 := addm_len x1 x0[i] acc
    obtain ⟨K, hK, h⟩ := l2_any x0 x1 hl ht ho d (i + 1) (addm x1 acc x0[i]) (by omega) (addm_dist x1 _ hd) (by omega)
    refine ⟨K + acc.length + 1 + 1, by omega, ?_⟩
    obtain ⟨k1, hk1⟩ : ∃ k1, k1 = K + acc.length + 1 := ⟨_, rfl⟩
    rw [← hk1]
    simp only [reticuleref21_Combined.l2]
    rw [hk1]
    rw [if_pos (by omega), if_pos (by omega), getE hil, List.drop_eq_getElem_cons hil, List.foldl_cons]
    rw [← wsu (by omega)] at h
    rcases find_same x0[i] acc with hno | ⟨j, hj, hs, hf⟩
    · rw [addm_new x1 _ acc hno] at h ⊢
      exact l3_none x0 x1 i x0[i] false acc (by omega) K _ (by rw [if_neg (by decide)]; exact h) acc.length 0 (by omega) (fun p hp _ => hno _ (List.getElem_mem hp))
    · rw [addm_old x1 _ acc j hj hs hf] at h ⊢
      exact l3_some x0 x1 i x0[i] acc (by omega) hd (ht _ hm) (ho _ hm) j hj hs K hK _ h j 0 (by omega) (fun p hp hpj => hf p hpj)
theorem l1_any (x0 : List S26) (x1 : List Int) (hl : x0.length ≤ 500) (ht : ∀ m ∈ x0, tg x1 m) :
    ∀ (d i : Nat), i + d = x0.length → (∀ m ∈ x0.take i, takes (opOf x1 m)) → ∃ k, reticuleref21_Combined.l1 k x0 x1 (i : Int) = some (if ∀ m ∈ x0, takes (opOf x1 m) then ((comb x1 x0).mergeSort le, 0) else ([], 3))
  | 0, i, hi, hto => by
    obtain rfl : i = x0.length := by omega
    rw [List.take_length] at hto
    obtain ⟨k, _, h⟩ := l2_any x0 x1 hl ht hto x0.length 0 [] (by omega) List.Pairwise.nil (by simp)
    refine ⟨k + 1, ?_⟩
    simp only [reticuleref21_Combined.l1]
    rw [if_neg (by omega), if_pos hto]
    exact h
  | d + 1, i, hi, hto => by
    have hil : i < x0.length := by omega
    have hm : x0[i] ∈ x0 := List.getElem_mem hil
    have htm := ht _ hm
    have hrd : rd x1 x0[i].f1 = opOf x1 x0[i] := by simp [rd, opOf]
    obtain ⟨f, hf⟩ := reduces_told 0 (opOf x1 x0[i])
    by_cases ho : takes (opOf x1 x0[i])
    · obtain ⟨k, h⟩ := l1_any x0 x1 hl ht d (i + 1) (by omega) (fun m hm => by
        rw [List.take_succ_eq_append_getElem hil] at hm
        rcases List.mem_append.1 hm with hm | hm
        · exact hto m hm
        · rw [List.mem_singleton.1 hm]; exact ho)
      refine ⟨k + 2, ?_⟩
      obtain ⟨f, hf⟩ := reduces_told k (opOf x1 x0[i])
      have h' := LeO_le (fun k => (reticuleref21_Combined.mono_l k).2.1 x0 x1 ((i + 1 : Nat) : Int)) (Nat.le_succ k) h
      simp only [reticuleref21_Combined.l1]
      rw [if_pos (by omega), if_pos (by omega), getE hil, if_pos htm.1, if_pos htm.2, hrd, reduces_same, hf, wsu (by omega)]
      simp only [Option.bind_some]
      rw [if_pos (decide_eq_true ho)]
      exact h'
    · refine ⟨2, ?_⟩
      simp only [reticuleref21_Combined.l1]
      rw [if_pos (by omega), if_pos (by omega), getE hil, if_pos htm.1, if_pos htm.2, hrd, reduces_same, hf]
      simp only [Option.bind_some]
      rw [if_neg (by rw [decide_eq_false ho]; decide), if_neg (fun h => ho (h _ hm))]
theorem l0_any (x0 : List S26) (x1 : List Int) (hl : x0.length ≤ 500) :
    ∀ (d i : Nat), i + d = x0.length → (∀ m ∈ x0.take i, tg x1 m) → ∃ k, reticuleref21_Combined.l0 k x0 x1 (i : Int) = some (if ∀ m ∈ x0, tg x1 m then (if ∀ m ∈ x0, takes (opOf x1 m) then ((comb x1 x0).mergeSort le, 0) else ([], 3)) else ([], 2))
  | 0, i, hi, hto => by
    obtain rfl : i = x0.length := by omega
    rw [List.take_length] at hto
    obtain ⟨k, h⟩ := l1_any x0 x1 hl hto x0.length 0 (by omega) (by simp)
    refine ⟨k + 1, ?_⟩
    simp only [reticuleref21_Combined.l0]
    rw [if_neg (by omega), if_pos hto]
    exact h
  | d + 1, i, hi, hto => by
    have hil : i < x0.length := by omega
    have hm : x0[i] ∈ x0 := List.getElem_mem hil
    by_cases ht : tg x1 x0[i]
    · obtain ⟨k, h⟩ := l0_any x0 x1 hl d (i + 1) (by omega) (fun m hm => by
        rw [List.take_succ_eq_append_getElem hil] at hm
        rcases List.mem_append.1 hm with hm | hm
        · exact hto m hm
        · rw [List.mem_singleton.1 hm]; exact ht)
      refine ⟨k + 1, ?_⟩
      have h1 := ht.1
      have h2 := ht.2
      simp only [reticuleref21_Combined.l0]
      rw [if_pos (by omega), if_pos (by omega), getE hil, if_neg (by omega), if_neg (by omega), wsu (by omega)]
      exact h
    · refine ⟨1, ?_⟩
      simp only [reticuleref21_Combined.l0]
      have hno : ¬ ∀ m ∈ x0, tg x1 m := fun h => ht (h _ hm)
      rw [if_pos (by omega), if_pos (by omega), getE hil]
      by_cases h1 : x0[i].f1 < 0
      · rw [if_pos h1, if_neg hno]
      · rw [if_neg h1, if_pos (by unfold tg at ht; omega), if_neg hno]
theorem rcomb (x0 : List S26) (x1 : List Int) (hl : x0.length ≤ 500) (h1 : x1.length ≤ 500) (hr : ∀ m ∈ x0, inr m) : ∃ k r, reticuleref21_Combined.f k x0 x1 = some r ∧ mail_Combined.f x0 x1 = some r := by
  obtain ⟨k, h⟩ := l0_any x0 x1 hl x0.length 0 (by omega) (by simp)
  refine ⟨k, _, h, ?_⟩
  unfold mail_Combined.f
  rw [if_pos ⟨hr, by omega, by omega⟩]
  (repeat' split) <;> rfl
theorem few_f (l : List S26) : PC.reticulelaw21_few.f l = some (l.take 50) := by
  unfold PC.reticulelaw21_few.f
  split
  · rw [if_pos (by omega)]
  · rw [List.take_of_length_le (by omega)]
theorem ops_f (l : List Int) : PC.reticulelaw21_ops.f l = some (l.take 10) := by
  unfold PC.reticulelaw21_ops.f
  split
  · rw [if_pos (by omega)]
  · rw [List.take_of_length_le (by omega)]
theorem sums_l0 (x0 : List S26) (x1 : List Int) (w : Int) (hl : x0.length ≤ 1000) (h1 : x1.length ≤ 1000) (c : List S26) (hc : c.length ≤ 1000) (e : Int) : ∀ (d i k : Nat), i + d = x1.length → d + 1200 < k → reticulelaw21_MailSums.l0 k x0 x1 w c e c e (i : Int) = some true
  | 0, i, k, hi, hk => by
    obtain ⟨k, rfl⟩ : ∃ m, k = m + 1 := ⟨k - 1, by omega⟩
    simp only [reticulelaw21_MailSums.l0]
    rw [if_neg (by omega), LeO_le (F := fun k => reticulelaw21_live.f k) reticulelaw21_live.mono (show 30 ≤ k by omega) live_yes]
    simp only [Option.bind_some, if_true]
    rw [same_f c hc k (by omega)]
    simp
  | d + 1, i, k, hi, hk => by
    obtain ⟨k, rfl⟩ : ∃ m, k = m + 1 := ⟨k - 1, by omega⟩
    simp only [reticulelaw21_MailSums.l0]
    rw [if_pos (by omega), if_pos (by omega), tk_f _ _ _ _ hl k (by omega), rtk_f _ _ _ _ hl k (by omega), wsu (by omega)]
    simp only [Option.bind_some, if_true]
    exact sums_l0 x0 x1 w hl h1 c hc e d (i + 1) k (by omega) (by omega)
theorem comb_len (ops : List Int) : ∀ (l acc : List S26), (l.foldl (addm ops) acc).length ≤ acc.length + l.length
  | [], acc => by simp
  | m :: l, acc => by
    have h1 := comb_len ops l (addm ops acc m)
    have h2 := addm_len ops m acc
    simp only [List.foldl_cons, List.length_cons]
    omega
theorem comb_res_len {x0 : List S26} {x1 : List Int} {r : List S26 × Int} (hl : x0.length ≤ 50) (h : mail_Combined.f x0 x1 = some r) : r.1.length ≤ 1000 := by
  have hcl := comb_len x1 x0 []
  unfold mail_Combined.f at h
  split at h
  · split at h
    · split at h
      · injection h with h
        rw [← h]
        show ((comb x1 x0).mergeSort le).length ≤ 1000
        simp only [List.length_mergeSort]
        unfold comb
        simp at hcl
        omega
      · injection h with h; rw [← h]; simp
    · injection h with h; rw [← h]; simp
  · cases h
theorem sums_f (l : List S26) (o : List Int) (w : Int) (hr : ∀ m ∈ l, inr m) : ∃ k, reticulelaw21_MailSums.f k l o w = some true := by
  have hx := List.length_take_le 50 l
  have ho := List.length_take_le 10 o
  obtain ⟨k, r, h1, h2⟩ := rcomb (l.take 50) (o.take 10) (by omega) (by omega) (fun m hm => hr m (List.mem_of_mem_take hm))
  have hrl := comb_res_len hx h2
  obtain ⟨K, hK1, hK2⟩ : ∃ K, k ≤ K ∧ 3000 ≤ K := ⟨max k 3000, Nat.le_max_left _ _, Nat.le_max_right _ _⟩
  refine ⟨K, ?_⟩
  unfold reticulelaw21_MailSums.f
  rw [few_f, ops_f]
  simp only [Option.bind_some]
  rw [h2, LeO_le (F := fun k => reticuleref21_Combined.f k (l.take 50) (o.take 10)) (reticuleref21_Combined.mono _ _) hK1 h1]
  simp only [Option.bind_some]
  exact sums_l0 _ _ w (by omega) (by omega) r.1 hrl r.2 (o.take 10).length 0 K (by omega) (by omega)
theorem wf_rng {a : Int} (h : (Lit.int .i64 a).wf = true) : -9223372036854775808 ≤ a ∧ a ≤ 9223372036854775807 := by
  simp [Lit.wf, IntKind.min, IntKind.max, IntKind.signed, IntKind.bits] at h
  exact h
theorem sums_w (w : World) (A : Option Addr) (c : Nat) (l : List S26) (hc : l.length ≤ c) (hr : Kd.C k26 w A l.length l) (hg : l.length ≤ maxLen ∧ ∀ x ∈ l, (Lit.int .i64 x.f0).wf = true ∧ (Lit.int .i64 x.f1).wf = true ∧ (Lit.int .i64 x.f2).wf = true) (hs : l.length * 24 ≤ 140737488351232)
    (B : Option Addr) (cb : Nat) (b : List Int) (hcb : b.length ≤ cb) (hrb : Kd.C kb w B b.length b) (hgb : b.length ≤ maxLen ∧ ∀ x ∈ b, (Lit.int .u8 x).wf = true) (hsb : b.length * 1 ≤ 140737488351232) (v : Int) (wf : (Lit.int .i64 v).wf = true) :
    Calls Try.prog 4 #[.slice A l.length c, .slice B b.length cb, .int .i64 v] w fun e w' => e = .returned (.bool true) ∧ Below w.heap.size w w' := by
  obtain ⟨k, hk⟩ := sums_f l b v (fun m hm => ⟨wf_rng (hg.2 m hm).1, wf_rng (hg.2 m hm).2.1⟩)
  exact reticulelaw21_MailSums.calls k A c l B cb b v true w hr hc hrb hcb hk
end Go.Proofs.Ythmenclkgngkkaa.M
