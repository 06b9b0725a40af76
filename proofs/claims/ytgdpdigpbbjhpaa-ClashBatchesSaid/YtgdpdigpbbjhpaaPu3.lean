/- Plain facts of clash: names, sorted, each once; what must be. -/
import Derived.Test.YtgdpdigpbbjhpaaPu2
set_option linter.unusedSimpArgs false
set_option linter.unusedVariables false
namespace Go.Proofs.Ytgdpdigpbbjhpaa.C
open Go.RowKit Go.Sort Go.Proofs.Ytgdpdigpbbjhpaa.PA Go.Proofs.Ytgdpdigpbbjhpaa.PB Go.Proofs.YtgdpdigpbbjhpaaW.PrintWords
def ins (s : List UInt8) : List (List UInt8) → List (List UInt8)
  | [] => [s]
  | t :: ts => if t < s then t :: ins s ts else if t = s then t :: ts else s :: t :: ts
theorem toB_list (t : List UInt8) : (toB t).toList = t := by rw [ByteArray.toList_eq]; simp [toB]
theorem rdB {ss : List (List UInt8)} {i : Nat} (h : i < ss.length) : rdOf ByteArray.empty (ss.map toB) (i : Int) = toB ss[i] := by unfold rdOf; simp [List.getD_eq_getElem?_getD, h]
theorem with_l (ss : List (List UInt8)) (s : List UInt8) (hl : ss.length ≤ 1000) : ∀ (d i k : Nat), ss.length - i = d → i ≤ ss.length → d < k →
    reticuleref12_with.l0 k (ss.map toB) (toB s) (i : Int) = some ((ss.take i ++ ins s (ss.drop i)).map toB) := by
  intro d
  induction d with
  | zero =>
    intro i k h1 h2 hk
    obtain ⟨k, rfl⟩ : ∃ m, k = m + 1 := ⟨k - 1, by omega⟩
    obtain rfl : i = ss.length := by omega
    simp only [reticuleref12_with.l0]
    rw [if_neg (by simp), Option.bind_some, if_pos (by omega), if_pos (by simp), Option.bind_some, if_pos (by simp; omega), Option.bind_some, Option.bind_some, if_pos (by simp; omega), Option.bind_some, Option.bind_some, if_pos (by simp; omega)]
    have z1 : (ss.map toB).drop ss.length = [] := List.drop_eq_nil_of_le (by simp)
    have z2 : (ss.map toB).take ss.length = ss.map toB := List.take_of_length_le (by simp)
    simp [ins, z1, z2]
  | succ d ih =>
    intro i k h1 h2 hk
    obtain ⟨k, rfl⟩ : ∃ m, k = m + 1 := ⟨k - 1, by omega⟩
    have hi : i < ss.length := by omega
    have htk : ss.take (i + 1) = ss.take i ++ [ss[i]] := by rw [List.take_add_one, List.getElem?_eq_getElem hi]; rfl
    simp only [reticuleref12_with.l0]
    rw [if_pos (by simp; omega), if_pos (by omega), rdB hi, toB_list, toB_list, bytesLess_eq, ww (by omega), List.drop_eq_getElem_cons hi, ins]
    by_cases h : ss[i] < s
    · rw [if_pos (decide_eq_true h), if_pos h, ih (i + 1) k (by omega) (by omega) (by omega), htk, List.append_assoc]
      rfl
    · rw [if_neg (by simpa using h), if_neg h]
      by_cases e : ss[i] = s
      · rw [if_pos e, if_pos e, ← List.drop_eq_getElem_cons hi, List.take_append_drop]
      · rw [if_neg e, if_neg e, Option.bind_some, if_pos (by simp; omega), Option.bind_some, if_pos (by simp; omega), Option.bind_some, Option.bind_some, if_pos (by simp; omega), Option.bind_some, Option.bind_some, if_pos (by simp; omega)]
        rw [← List.drop_eq_getElem_cons hi]
        simp [List.map_take, List.map_drop]
theorem with_f (ss : List (List UInt8)) (s : List UInt8) (hl : ss.length ≤ 1000) (k : Nat) (hk : 1100 ≤ k) : reticuleref12_with.f k (ss.map toB) (toB s) = some ((ins s ss).map toB) := by
  unfold reticuleref12_with.f
  have := with_l ss s hl ss.length 0 k (by omega) (by omega) (by omega)
  simpa using this
theorem ins_len (s : List UInt8) : ∀ ss : List (List UInt8), (ins s ss).length ≤ ss.length + 1
  | [] => by simp [ins]
  | t :: ts => by
    rw [ins]
    split
    · have := ins_len s ts; simp; omega
    · split <;> simp
def inss : List (List UInt8) → List S39 → List (List UInt8)
  | ss, [] => ss
  | ss, a :: l => inss (ins (nb a) ss) l
theorem f1_nb (a : S39) : a.f1 = toB (nb a) := by unfold toB nb; simp
theorem rwr (l : List S39) (hl : l.length ≤ 100) : ∀ (d i k : Nat) (ss : List (List UInt8)), l.length - i = d → i ≤ l.length → 1101 + d ≤ k → ss.length ≤ i → reticuleref12_Writes.l0 k l (ss.map toB) (i : Int) = some ((inss ss (l.drop i)).map toB) := by
  intro d
  induction d with
  | zero =>
    intro i k ss h1 h2 hk hs
    obtain ⟨k, rfl⟩ : ∃ m, k = m + 1 := ⟨k - 1, by omega⟩
    obtain rfl : i = l.length := by omega
    simp only [reticuleref12_Writes.l0]
    rw [if_neg (by omega), List.drop_length, inss]
  | succ d ih =>
    intro i k ss h1 h2 hk hs
    obtain ⟨k, rfl⟩ : ∃ m, k = m + 1 := ⟨k - 1, by omega⟩
    have hi : i < l.length := by omega
    simp only [reticuleref12_Writes.l0]
    rw [if_pos (by omega), if_pos (by omega), rdT hi, f1_nb, with_f ss _ (by omega) k (by omega), Option.bind_some, ww (by omega)]
    have := ins_len (nb l[i]) ss
    rw [ih (i + 1) k _ (by omega) (by omega) (by omega) (by omega), List.drop_eq_getElem_cons hi, inss]
theorem rwr_f (l : List S39) (hl : l.length ≤ 30) (k : Nat) (hk : 1200 ≤ k) : reticuleref12_Writes.f k l = some ((inss [] l).map toB) := by
  unfold reticuleref12_Writes.f
  have := rwr l (by omega) l.length 0 k [] (by omega) (by omega) (by omega) (by simp)
  simpa using this
def Srt (ss : List (List UInt8)) : Prop := ss.Pairwise (· < ·)
theorem ins_perm {s : List UInt8} : ∀ {ss : List (List UInt8)}, Srt ss → (s ∈ ss → (ins s ss).Perm ss) ∧ (s ∉ ss → (ins s ss).Perm (s :: ss))
  | [], _ => ⟨(fun h => by cases h), (fun _ => List.Perm.refl _)⟩
  | t :: ts, h => by
    have h' := List.pairwise_cons.1 h
    have ih := ins_perm (s := s) h'.2
    rw [ins]
    by_cases h1 : t < s
    · rw [if_pos h1]
      have hne : s ≠ t := fun e => by rw [e] at h1; exact List.lt_irrefl t h1
      refine ⟨fun hm => (ih.1 ((List.mem_cons.1 hm).resolve_left hne)).cons t, fun hm => ((ih.2 fun q => hm (List.mem_cons_of_mem _ q)).cons t).trans (List.Perm.swap s t ts)⟩
    · rw [if_neg h1]
      by_cases h2 : t = s
      · rw [if_pos h2]
        exact ⟨fun _ => List.Perm.refl _, fun hm => absurd (by rw [h2]; exact List.mem_cons_self) hm⟩
      · rw [if_neg h2]
        refine ⟨fun hm => ?_, fun _ => List.Perm.refl _⟩
        rcases List.mem_cons.1 hm with e | hm
        · exact absurd e.symm h2
        · exact absurd (h'.1 s hm) h1
theorem lt_of_not {a b : List UInt8} (h1 : ¬ a < b) (h2 : a ≠ b) : b < a := by
  rcases List.le_total a b with h | h
  · exact Classical.byContradiction fun q => h2 (List.le_antisymm h (List.not_lt.1 h1))
  · exact Classical.byContradiction fun q => h2 (List.le_antisymm (List.not_lt.1 q) h)
theorem ins_mem {s : List UInt8} : ∀ {ss : List (List UInt8)} {x : List UInt8}, x ∈ ins s ss → x = s ∨ x ∈ ss
  | [], x, h => by simpa [ins] using h
  | t :: ts, x, h => by
    rw [ins] at h
    split at h
    · rcases List.mem_cons.1 h with h | h
      · exact .inr (by rw [h]; exact List.mem_cons_self)
      · rcases ins_mem h with h | h
        · exact .inl h
        · exact .inr (List.mem_cons_of_mem _ h)
    · split at h
      · exact .inr h
      · exact List.mem_cons.1 h
theorem ins_srt {s : List UInt8} : ∀ {ss : List (List UInt8)}, Srt ss → Srt (ins s ss)
  | [], _ => List.pairwise_singleton _ _
  | t :: ts, h => by
    have h' := List.pairwise_cons.1 h
    have ih := ins_srt (s := s) h'.2
    rw [ins]
    by_cases h1 : t < s
    · rw [if_pos h1]
      refine List.pairwise_cons.2 ⟨fun x hx => ?_, ih⟩
      rcases ins_mem hx with rfl | hx
      · exact h1
      · exact h'.1 x hx
    · rw [if_neg h1]
      by_cases h2 : t = s
      · rw [if_pos h2]; exact h
      · rw [if_neg h2]
        have h3 := lt_of_not h1 h2
        refine List.pairwise_cons.2 ⟨fun x hx => ?_, h⟩
        rcases List.mem_cons.1 hx with rfl | hx
        · exact h3
        · exact List.lt_trans h3 (h'.1 x hx)
theorem inss_dn : ∀ (l : List S39) (ss acc : List (List UInt8)), Srt ss → ss.Perm acc → Srt (inss ss l) ∧ (inss ss l).Perm (dn acc l)
  | [], ss, acc, h, hp => ⟨h, hp⟩
  | a :: l, ss, acc, h, hp => by
    rw [inss, dn]
    have hi := ins_perm (s := nb a) h
    by_cases hm : nb a ∈ acc
    · rw [if_pos hm]
      exact inss_dn l _ acc (ins_srt h) ((hi.1 (hp.mem_iff.2 hm)).trans hp)
    · rw [if_neg hm]
      refine inss_dn l _ _ (ins_srt h) ((hi.2 fun q => hm (hp.mem_iff.1 q)).trans ?_)
      exact (hp.cons _).trans (List.perm_append_comm (l₁ := [nb a]) (l₂ := acc))
theorem srt_eq {a b : List (List UInt8)} (ha : Srt a) (hb : Srt b) (hp : a.Perm b) : a = b :=
  List.Perm.eq_of_pairwise (le := fun x y => x < y) (fun x y _ _ h1 h2 => absurd (List.lt_trans h1 h2) (List.lt_irrefl x)) ha hb hp
theorem dn_nodup : ∀ (l : List S39) (acc : List (List UInt8)), acc.Nodup → (dn acc l).Nodup
  | [], acc, h => h
  | a :: l, acc, h => by
    rw [dn]
    split
    · exact dn_nodup l acc h
    · rename_i hm
      refine dn_nodup l _ ?_
      rw [List.nodup_append]
      refine ⟨h, by simp, fun x hx y hy => ?_⟩
      rw [List.mem_singleton.1 hy]
      intro e
      rw [e] at hx
      exact hm hx
theorem sorted_srt {ds : List (List UInt8)} (h : ds.Nodup) : Srt (ds.mergeSort leB) := by
  have tr : ∀ a b c : List UInt8, leB a b = true → leB b c = true → leB a c = true := fun a b c h1 h2 => by simp only [leB, decide_eq_true_eq] at *; exact List.le_trans h1 h2
  have tt : ∀ a b : List UInt8, (leB a b || leB b a) = true := fun a b => by simp only [leB, Bool.or_eq_true, decide_eq_true_eq]; exact List.le_total a b
  have h1 := List.pairwise_mergeSort tr tt ds
  have h2 : (ds.mergeSort leB).Nodup := (List.mergeSort_perm ds leB).nodup_iff.2 h
  refine (h1.and h2).imp fun {a b} q => ?_
  obtain ⟨q1, q2⟩ := q
  simp only [leB, decide_eq_true_eq] at q1
  exact Classical.byContradiction fun q => q2 (List.le_antisymm q1 (List.not_lt.1 q))
theorem names_eq (l : List S39) : inss [] l = (dn [] l).mergeSort leB := by
  obtain ⟨h1, h2⟩ := inss_dn l [] [] List.Pairwise.nil (List.Perm.refl _)
  exact srt_eq h1 (sorted_srt (dn_nodup l [] List.nodup_nil)) (h2.trans (List.mergeSort_perm _ leB).symm)
theorem wr_f (l : List S39) (hl : l.length ≤ 30) (hs : ∀ a ∈ l, a.f1.size ≤ maxLen) : clash_Writes.f l = some ((inss [] l).map toB) := by
  unfold clash_Writes.f
  rw [if_pos ⟨hs, by omega⟩, names_eq]
/-! What must be -/
def a1 : S39 := ⟨1, ⟨#[97]⟩, 0, false, 0, -1⟩
def a2 : S39 := ⟨2, ⟨#[97]⟩, 1, false, 0, -1⟩
theorem a_size : ∀ a ∈ [a1, a2], a.f1.size ≤ maxLen := fun a h => by
  rcases List.mem_cons.1 h with rfl | h
  · exact Nat.le_trans (show _ ≤ 1 from Nat.le_refl 1) (by unfold maxLen; omega)
  · rw [List.mem_singleton.1 h]; exact Nat.le_trans (show _ ≤ 1 from Nat.le_refl 1) (by unfold maxLen; omega)
theorem live_f (k : Nat) (hk : 1000 ≤ k) : reticulelaw12_live.f k = some true := by
  unfold reticulelaw12_live.f
  rw [Option.bind_some]
  have e : ([(⟨1, (⟨#[97]⟩ : ByteArray), 0, false, 0, (-1)⟩ : S39), (⟨2, (⟨#[97]⟩ : ByteArray), 1, false, 0, (-1)⟩ : S39)] : List (S39)) = [a1, a2] := rfl
  rw [e]
  rw [reg_f a_size, Option.bind_some, if_pos (by decide), reg_f (fun a h => a_size a (List.mem_of_mem_drop h)), Option.bind_some, wr_f _ (by decide) a_size, Option.bind_some]
  have r1 : rgn [] [a1, a2] = (1, 10) := by decide +kernel
  have r2 : rgn [] ([a1, a2].drop 1) = (0, 0) := by decide +kernel
  have r3 : inss [] [a1, a2] = [[97]] := by decide +kernel
  have r4 : gr [] [a1, a2] = [[a1], [a2]] := by
    rw [gr_one, gr_stop (row := [a1]) (by decide +kernel), gr_one, gr, if_neg (by simp)]
  rw [r1, r2, r3, if_pos rfl, if_pos rfl, if_pos rfl, if_pos rfl, if_pos (by decide), if_pos (by decide)]
  have r5 : (rdOf ByteArray.empty ([[97]].map toB) 0).toList = ([97] : List UInt8) := by
    have := rdB (ss := [[97]]) (i := 0) (by decide)
    rw [show ((0 : Nat) : Int) = 0 from rfl] at this
    rw [this, toB_list]; rfl
  rw [if_pos r5, bat_f _ (by decide) a_size k hk, Option.bind_some, r4]
  rfl
end Go.Proofs.Ytgdpdigpbbjhpaa.C
