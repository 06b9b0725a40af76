/- The walks of ClashRegions and ClashFewer, as their rows want them. -/
import Derived.Test.YtgdpdigpbbjhpaaCk
import Derived.Test.YtgdpdigpbbjhpaaOpns
import Derived.Test.YtgdpdigpbbjhpaaPBx14
set_option linter.unusedSimpArgs false
set_option linter.unusedVariables false
namespace Go.Proofs.Ytgdpdigpbbjhpaa.C
open Go.RowKit Go.Sort Go.Proofs.Ytgdpdigpbbjhpaa.PA Go.Proofs.Ytgdpdigpbbjhpaa.PB Go.Proofs.YtgdpdigpbbjhpaaW.PrintWords Go.Proofs.YtgdpdigpbbjhpaaW.PrintMore
theorem regions_row (w : World) (A : Option Addr) (c : Nat) (l : List S39) (hc : l.length ≤ c) (hr : Kd.C k39 w A l.length l) (hg : l.length ≤ maxLen ∧ ∀ x ∈ l, ga x) (_ : l.length * 48 ≤ 140737488351232) :
    Calls Try.prog 3 #[.slice A l.length c] w fun e w' => e = .returned (.bool true) ∧ Below w.heap.size w w' :=
  regions_w w A c l hc hr (fun a ha => (hg.2 a ha).2.1)
theorem fewer_f (a1 : Int) (x : List S39) (hl : x.length ≤ 14) (hs : ∀ a ∈ x, a.f1.size ≤ maxLen) : ∀ (d i k : Nat) (m : List S39), x.length - i = d → i ≤ x.length → 1001 + d ≤ k → m.Sublist (x.take i) →
    reticulelaw12_ClashFewer.l0 k x a1 m (i : Int) = some true := by
  intro d
  induction d with
  | zero =>
    intro i k m h1 h2 hk hm
    obtain ⟨k, rfl⟩ : ∃ q, k = q + 1 := ⟨k - 1, by omega⟩
    obtain rfl : i = x.length := by omega
    have hsub : m.Sublist x := by rwa [List.take_length] at hm
    simp only [reticulelaw12_ClashFewer.l0]
    rw [if_neg (by omega), reg_f hs, Option.bind_some, reg_f (fun a ha => hs a (hsub.subset ha)), Option.bind_some, live_f k (by omega), Option.bind_some, if_pos rfl]
    by_cases h0 : (rgn [] x).2 = 0
    · have h1 : (rgn [] m).2 = 0 := (pw_iff m).2 (((pw_iff x).1 h0).sublist hsub)
      rw [if_pos h0, if_pos h1, rgn_pair m [] h1]
      rfl
    · rw [if_neg h0]
  | succ d ih =>
    intro i k m h1 h2 hk hm
    obtain ⟨k, rfl⟩ : ∃ q, k = q + 1 := ⟨k - 1, by omega⟩
    have hi : i < x.length := by omega
    have htk : x.take (i + 1) = x.take i ++ [x[i]] := by rw [List.take_add_one, List.getElem?_eq_getElem hi]; rfl
    have hml := hm.length_le
    simp only [List.length_take] at hml
    simp only [reticulelaw12_ClashFewer.l0]
    rw [if_pos (by omega), if_pos (by omega), rdT hi, ww (by omega)]
    by_cases hb : (Go.bits .and .u16 (shr .u16 a1 (i : Int)) 1) = 1
    · rw [if_pos hb, if_pos (by omega)]
      exact ih (i + 1) k _ (by omega) (by omega) (by omega) (by rw [htk]; exact hm.append (List.Sublist.refl _))
    · rw [if_neg hb]
      exact ih (i + 1) k m (by omega) (by omega) (by omega) (by rw [htk]; exact hm.trans (List.sublist_append_left _ _))
theorem fewer_all (l : List S39) (a1 : Int) (hs : ∀ a ∈ l, a.f1.size ≤ maxLen) : reticulelaw12_ClashFewer.f 1100 l a1 = some true := by
  unfold reticulelaw12_ClashFewer.f
  rw [few_f, Option.bind_some]
  exact fewer_f a1 (l.take 14) (List.length_take_le _ _) (fun a ha => hs a (List.mem_of_mem_take ha)) _ 0 1100 [] rfl (by omega) (by have := List.length_take_le 14 l; omega) (List.nil_sublist _)
theorem fewer_row (w : World) (A : Option Addr) (c : Nat) (l : List S39) (hc : l.length ≤ c) (hr : Kd.C k39 w A l.length l) (hg : l.length ≤ maxLen ∧ ∀ x ∈ l, ga x) (_ : l.length * 48 ≤ 140737488351232) (a1 : Int) (_ : (Lit.int .u16 a1).wf = true) :
    Calls Try.prog 5 #[.slice A l.length c, .int .u16 a1] w fun e w' => e = .returned (.bool true) ∧ Below w.heap.size w w' :=
  reticulelaw12_ClashFewer.calls 1100 A c l a1 true w hr hc (fewer_all l a1 (fun a ha => (hg.2 a ha).2.1))
end Go.Proofs.Ytgdpdigpbbjhpaa.C
