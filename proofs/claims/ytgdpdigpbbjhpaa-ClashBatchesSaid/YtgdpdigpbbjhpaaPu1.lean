/- Plain facts of clash: regions, names, rows. -/
import Derived.Test.YtgdpdigpbbjhpaaPBx2
import Derived.Test.YtgdpdigpbbjhpaaPBx10
import Derived.Test.YtgdpdigpbbjhpaaPBx12
import Derived.Test.YtgdpdigpbbjhpaaPBx13
import Derived.Sort.Walk0
set_option linter.unusedSimpArgs false
set_option linter.unusedVariables false
namespace Go.Proofs.Ytgdpdigpbbjhpaa.C
open Go.RowKit Go.Sort Go.Proofs.Ytgdpdigpbbjhpaa.PA Go.Proofs.Ytgdpdigpbbjhpaa.PB Go.Proofs.YtgdpdigpbbjhpaaW.PrintWords
theorem ww {i : Nat} (h : i < 1000000) : wrap64 ((i : Int) + 1) = ((i + 1 : Nat) : Int) := by unfold wrap64; omega
theorem rdT {l : List S39} {i : Nat} (h : i < l.length) : rd_T39 l (i : Int) = l[i] := by unfold rd_T39; simp [List.getD_eq_getElem?_getD, h]
theorem few_f (l : List S39) : reticulelaw12_few.f l = some (l.take 14) := by
  unfold reticulelaw12_few.f
  split
  · rw [if_pos (by omega)]
  · rw [List.take_of_length_le (by omega)]
/-! Regions -/
def Cf (b a : S39) : Prop := b.f1 = a.f1 ∧ (b.f0 = 1 ∨ a.f0 = 1 ∨ b.f2 ≠ a.f2)
theorem Cf.symm {b a : S39} (h : Cf b a) : Cf a b := ⟨h.1.symm, by rcases h.2 with h | h | h; exact .inr (.inl h); exact .inl h; exact .inr (.inr (Ne.symm h))⟩
theorem hit_iff {pre : List S39} {a : S39} : Hit pre a ↔ ∃ b ∈ pre, Cf b a := Iff.rfl
theorem ba_toList {a b : ByteArray} : a.toList = b.toList ↔ a = b := by
  constructor
  · intro h
    rw [ByteArray.toList_eq, ByteArray.toList_eq] at h
    cases a; cases b
    simp at h
    rw [h]
  · rintro rfl; rfl
theorem reg1 (l : List S39) (hl : l.length < 1000) {i : Nat} (hi : i < l.length) : ∀ (d k j : Nat), i - j = d → j ≤ i → d < k → (∀ q (hl : q < l.length), q < j → ¬ Cf l[q] l[i]) →
    reticuleref12_Region.l1 k l (i : Int) (j : Int) = if Hit (l.take i) l[i] then some ((i : Int), 10) else reticuleref12_Region.l0 (k - d - 1) l ((i + 1 : Nat) : Int) := by
  intro d
  induction d with
  | zero =>
    intro k j h1 h2 h3 hn
    obtain ⟨k, rfl⟩ : ∃ m, k = m + 1 := ⟨k - 1, by omega⟩
    obtain rfl : j = i := by omega
    simp only [reticuleref12_Region.l1]
    rw [if_neg (by omega), if_neg, ww (by omega)]
    · simp
    · rintro ⟨b, hb, hc⟩
      obtain ⟨q, hq1, hq2⟩ := List.mem_take_iff_getElem.1 hb
      exact hn q (by omega) (by omega) (by rw [hq2]; exact hc)
  | succ d ih =>
    intro k j h1 h2 h3 hn
    obtain ⟨k, rfl⟩ : ∃ m, k = m + 1 := ⟨k - 1, by omega⟩
    have hj : j < l.length := by omega
    simp only [reticuleref12_Region.l1]
    rw [if_pos (by omega), if_pos (by omega), if_pos (by omega), if_pos (by omega), if_pos (by omega), rdT hj, rdT hi, ww (by omega)]
    have hmem : l[j] ∈ l.take i := List.mem_take_iff_getElem.2 ⟨j, by omega, rfl⟩
    have yes : Cf l[j] l[i] → Hit (l.take i) l[i] := fun h => ⟨_, hmem, h⟩
    have next : ¬ Cf l[j] l[i] → reticuleref12_Region.l1 k l (i : Int) ((j + 1 : Nat) : Int) = if Hit (l.take i) l[i] then some ((i : Int), 10) else reticuleref12_Region.l0 (k + 1 - (d + 1) - 1) l ((i + 1 : Nat) : Int) := fun h => by
      rw [ih k (j + 1) (by omega) (by omega) (by omega) (fun q hql hq => by
        rcases Nat.lt_or_ge q j with h4 | h4
        · exact hn q hql h4
        · obtain rfl : q = j := by omega
          exact h), show k - d - 1 = k + 1 - (d + 1) - 1 by omega]
    by_cases e1 : l[j].f1.toList = l[i].f1.toList
    · rw [if_pos e1]
      have e1' := ba_toList.1 e1
      by_cases e2 : l[j].f0 = 1
      · rw [if_pos e2, if_pos (yes ⟨e1', .inl e2⟩)]
      · rw [if_neg e2]
        by_cases e3 : l[i].f0 = 1
        · rw [if_pos e3, if_pos (yes ⟨e1', .inr (.inl e3)⟩)]
        · rw [if_neg e3]
          by_cases e4 : l[j].f2 = l[i].f2
          · rw [if_pos e4]
            exact next fun h => by rcases h.2 with h | h | h; exact e2 h; exact e3 h; exact h e4
          · rw [if_neg e4, if_pos (yes ⟨e1', .inr (.inr e4)⟩)]
    · rw [if_neg e1]
      exact next fun h => e1 (ba_toList.2 h.1)
theorem reg0 (l : List S39) (hl : l.length < 1000) : ∀ (d k i : Nat), l.length - i = d → i ≤ l.length → d * (l.length + 2) + 1 ≤ k → reticuleref12_Region.l0 k l (i : Int) = some (rgn (l.take i) (l.drop i)) := by
  intro d
  induction d with
  | zero =>
    intro k i h1 h2 hk
    obtain ⟨k, rfl⟩ : ∃ m, k = m + 1 := ⟨k - 1, by omega⟩
    obtain rfl : i = l.length := by omega
    simp only [reticuleref12_Region.l0]
    rw [if_neg (by omega), List.drop_length, rgn]
  | succ d ih =>
    intro k i h1 h2 hk
    have hi : i < l.length := by omega
    have hm : (d + 1) * (l.length + 2) = d * (l.length + 2) + (l.length + 2) := by rw [Nat.add_mul, Nat.one_mul]
    obtain ⟨k, rfl⟩ : ∃ m, k = m + 1 := ⟨k - 1, by omega⟩
    simp only [reticuleref12_Region.l0]
    rw [if_pos (by omega)]
    have := reg1 l hl hi i k 0 (by omega) (by omega) (by omega) (fun q hql hq => by omega)
    rw [show ((0 : Nat) : Int) = 0 from rfl] at this
    rw [this, List.drop_eq_getElem_cons hi, rgn]
    have htl : (l.take i).length = i := by rw [List.length_take]; omega
    rw [htl]
    by_cases hh : Hit (l.take i) l[i]
    · rw [if_pos hh, if_pos hh]
    · rw [if_neg hh, if_neg hh, ih (k - i - 1) (i + 1) (by omega) (by omega) (by omega)]
      rw [List.take_add_one, List.getElem?_eq_getElem hi]; rfl
theorem rregion_f (l : List S39) (hl : l.length ≤ 30) (k : Nat) (hk : 1000 ≤ k) : reticuleref12_Region.f k l = some (rgn [] l) := by
  unfold reticuleref12_Region.f
  have := reg0 l (by omega) l.length k 0 (by omega) (by omega) (by
    have : l.length * (l.length + 2) ≤ 30 * 32 := Nat.mul_le_mul hl (by omega)
    omega)
  simpa using this
/-- No act clashes with another one. -/
def Pw (l : List S39) : Prop := l.Pairwise fun b a => ¬ Cf b a
theorem rgn_zero : ∀ (l pre : List S39), (rgn pre l).2 = 0 ↔ (∀ a ∈ l, ∀ b ∈ pre, ¬ Cf b a) ∧ Pw l
  | [], pre => by simp [rgn, Pw]
  | a :: l, pre => by
    rw [rgn]
    by_cases h : Hit pre a
    · rw [if_pos h]
      constructor
      · intro q; exact absurd q (by simp)
      · rintro ⟨h1, _⟩
        obtain ⟨b, hb, hc⟩ := h
        exact absurd hc (h1 a List.mem_cons_self b hb)
    · rw [if_neg h, rgn_zero l (pre ++ [a])]
      unfold Pw
      rw [List.pairwise_cons]
      constructor
      · rintro ⟨h1, h2⟩
        refine ⟨fun c hc b hb q => ?_, fun c hc => h1 c hc a (by simp), h2⟩
        rcases List.mem_cons.1 hc with rfl | hc
        · exact h ⟨b, hb, q⟩
        · exact h1 c hc b (List.mem_append_left _ hb) q
      · rintro ⟨h1, h2, h3⟩
        refine ⟨fun c hc b hb q => ?_, h3⟩
        rcases List.mem_append.1 hb with hb | hb
        · exact h1 c (List.mem_cons_of_mem _ hc) b hb q
        · rw [List.mem_singleton.1 hb] at q
          exact h2 c hc q
theorem rgn_pair : ∀ (l pre : List S39), (rgn pre l).2 = 0 → rgn pre l = (0, 0)
  | [], pre, _ => by simp [rgn]
  | a :: l, pre, h => by
    rw [rgn] at h ⊢
    by_cases q : Hit pre a
    · rw [if_pos q] at h; exact absurd h (by simp)
    · rw [if_neg q] at h ⊢; exact rgn_pair l _ h
theorem rgn_two : ∀ (l pre : List S39), (rgn pre l).2 = 0 ∨ (rgn pre l).2 = 10
  | [], pre => by simp [rgn]
  | a :: l, pre => by
    rw [rgn]
    by_cases q : Hit pre a
    · rw [if_pos q]; exact .inr rfl
    · rw [if_neg q]; exact rgn_two l _
theorem pw_iff (l : List S39) : (rgn [] l).2 = 0 ↔ Pw l := by
  rw [rgn_zero]
  exact ⟨fun h => h.2, fun h => ⟨fun a _ b hb => by simp at hb, h⟩⟩
theorem reg_f {l : List S39} (h : ∀ a ∈ l, a.f1.size ≤ maxLen) : clash_Region.f l = some (rgn [] l) := by unfold clash_Region.f; rw [if_pos h]
theorem clone_f {l : List S39} (h : l.length ≤ 1000) : api_Act.f l = some l := by unfold api_Act.f; rw [if_pos (by omega)]
/-! Rows -/
def gr : List S39 → List S39 → List (List S39)
  | row, [] => if row = [] then [] else [row]
  | row, a :: l => if (rgn [] (row ++ [a])).2 = 0 ∧ row.length + 1 ≤ 6 then gr (row ++ [a]) l else row :: gr [a] l
theorem gr_one (a : S39) (l : List S39) : gr [] (a :: l) = gr [a] l := by
  rw [gr, if_pos]
  · rfl
  · refine ⟨?_, by simp⟩
    rw [pw_iff]
    simp [Pw]
end Go.Proofs.Ytgdpdigpbbjhpaa.C
