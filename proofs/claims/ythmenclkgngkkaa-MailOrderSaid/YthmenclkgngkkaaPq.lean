/- The law MailOrder: plain. -/
import Derived.Test.YthmenclkgngkkaaPr
import Derived.Test.YthmenclkgngkkaaPDx3
set_option linter.unusedSimpArgs false
set_option linter.unusedVariables false
namespace Go.Proofs.Ythmenclkgngkkaa.O
open Go.RowKit Go.Proofs.Ythmenclkgngkkaa.M Go.Proofs.Ythmenclkgngkkaa.PA Go.Proofs.Ythmenclkgngkkaa.PB Go.Proofs.Ythmenclkgngkkaa.PD Go.Proofs.YthmenclkgngkkaaW.PrintWords Go.Proofs.YthmenclkgngkkaaW.PrintMore Go.Proofs.YthmenclkgngkkaaW.PrintLast
theorem and3 (y : Int) : 0 ≤ Go.bits .and .i64 y 3 ∧ Go.bits .and .i64 y 3 ≤ 3 := by
  have h : ((BitVec.ofInt 64 y) &&& (BitVec.ofInt 64 3)).toNat ≤ 3 := by
    rw [BitVec.toNat_and]
    exact Nat.le_trans Nat.and_le_right (by decide)
  unfold Go.bits
  show 0 ≤ IntKind.i64.wrap (((BitVec.ofInt 64 y) &&& (BitVec.ofInt 64 3)).toNat : Int) ∧ IntKind.i64.wrap (((BitVec.ofInt 64 y) &&& (BitVec.ofInt 64 3)).toNat : Int) ≤ 3
  generalize ((BitVec.ofInt 64 y) &&& (BitVec.ofInt 64 3)).toNat = m at h
  have e : IntKind.i64.wrap (m : Int) = m := by
    have : m = 0 ∨ m = 1 ∨ m = 2 ∨ m = 3 := by omega
    rcases this with rfl | rfl | rfl | rfl <;> decide +kernel
  rw [e]; omega
def five : List Int := [1, 6, 7, 17, 16]
def nrm (m : S26) : S26 := if rd five (Go.bits .and .i64 m.f1 3) = 17 then ⟨m.f0, Go.bits .and .i64 m.f1 3, Go.bits .and .i64 m.f2 1⟩ else ⟨m.f0, Go.bits .and .i64 m.f1 3, m.f2⟩
theorem nrm0 (m : S26) : (nrm m).f0 = m.f0 := by unfold nrm; split <;> rfl
theorem nrm1 (m : S26) : 0 ≤ (nrm m).f1 ∧ (nrm m).f1 ≤ 3 := by unfold nrm; split <;> exact and3 _
theorem five_takes {i : Int} (h0 : 0 ≤ i) (h1 : i ≤ 3) : takes (five.getD i.toNat 0) := by
  have : i = 0 ∨ i = 1 ∨ i = 2 ∨ i = 3 := by omega
  rcases this with rfl | rfl | rfl | rfl
  · exact .inl rfl
  · exact .inr (.inl rfl)
  · exact .inr (.inr (.inl rfl))
  · exact .inr (.inr (.inr (.inr rfl)))
theorem rd_five (i : Int) : rd five i = five.getD i.toNat 0 := rfl
theorem loop0 (l : List S26) (a1 a2 : Int) (hl : l.length ≤ 50) (R : Bool) (B : Nat)
    (hfin : ∀ K', B ≤ K' → reticulelaw21_MailOrder.l0 (K' + 1) l a1 a2 five (l.map nrm) (l.length : Int) = some R) : ∀ (d i K : Nat), i + d = l.length → B + d + 1 ≤ K → reticulelaw21_MailOrder.l0 K l a1 a2 five ((l.take i).map nrm) i = some R
  | 0, i, K, hi, hK => by
    obtain ⟨K, rfl⟩ : ∃ m, K = m + 1 := ⟨K - 1, by omega⟩
    have h := hfin K (by omega)
    obtain rfl : i = l.length := by omega
    rw [List.take_length]
    exact h
  | d + 1, i, K, hi, hK => by
    obtain ⟨K, rfl⟩ : ∃ m, K = m + 1 := ⟨K - 1, by omega⟩
    have hil : i < l.length := by omega
    have ih := loop0 l a1 a2 hl R B hfin d (i + 1) K (by omega) (by omega)
    rw [List.take_succ_eq_append_getElem hil, List.map_append, List.map_cons, List.map_nil] at ih
    obtain ⟨h0, h3⟩ := and3 l[i].f1
    simp only [reticulelaw21_MailOrder.l0]
    rw [if_pos (by omega), if_pos (by omega), rd_m hil, if_pos h0, if_pos (show Go.bits .and .i64 l[i].f1 3 < (five.length : Int) by show _ < (5 : Int); omega), wsu (by omega)]
    have hn : nrm l[i] = if rd five (Go.bits .and .i64 l[i].f1 3) = 17 then ⟨l[i].f0, Go.bits .and .i64 l[i].f1 3, Go.bits .and .i64 l[i].f2 1⟩ else ⟨l[i].f0, Go.bits .and .i64 l[i].f1 3, l[i].f2⟩ := rfl
    by_cases h17 : rd five (Go.bits .and .i64 l[i].f1 3) = 17
    · rw [if_pos h17] at hn
      rw [if_pos h17, if_pos (by simp; omega), ← hn]
      exact ih
    · rw [if_neg h17] at hn
      rw [if_neg h17, if_pos (by simp; omega), ← hn]
      exact ih
theorem j4_ok (m t a : List S26) (ht : t.Perm m) (ha : a.Perm (comb five m)) (hml : m.length ≤ 50) (hal : a.length ≤ 50) (w : Int) (tag nd : Nat) (hg : tag ≤ 3) (ho : nd ≤ 3) (x18 : Int) (K : Nat) (hK : 1100 ≤ K) :
    reticulelaw21_MailOrder.j4 (K + 1) w five m t a tag nd x18 = reticulelaw21_MailOrder.l2 K w five m t a tag ((nd + 1 : Nat) : Int) := by
  have hk := five_takes (i := (tag : Int)) (by omega) (by omega)
  have h1 := List.length_filter_le (kp nd) m
  have h2 := List.length_filter_le (kp nd) t
  have h3 := List.length_filter_le (kp nd) a
  have htl := ht.length_eq
  have e1 : tkn (five.getD (tag : Int).toNat 0) tag (t.filter (kp nd)) x18 = tkn (five.getD (tag : Int).toNat 0) tag (m.filter (kp nd)) x18 := by
    rw [tkn_st, tkn_st, st_perm hk _ _ ht]
  have e2 : tkn (five.getD (tag : Int).toNat 0) tag (a.filter (kp nd)) x18 = tkn (five.getD (tag : Int).toNat 0) tag (m.filter (kp nd)) x18 := by
    rw [tkn_st, tkn_st, st_perm hk _ _ ha]
    exact st_comb hk five nd tag m (fun x hx hxt => by unfold opOf; rw [hxt]) x18
  simp only [reticulelaw21_MailOrder.j4]
  rw [if_pos (by omega), if_pos (show (tag : Int) < (five.length : Int) by show _ < (5 : Int); omega), rd_five]
  unfold mail_For.f
  rw [if_pos (by omega), if_pos (by omega), if_pos (by omega)]
  simp only [Option.bind_some]
  rw [tk_f _ _ _ _ (by omega) K (by omega) hk, tk_f _ _ _ _ (by omega) K (by omega) hk, tk_f _ _ _ _ (by omega) K (by omega) hk]
  simp only [Option.bind_some]
  rw [if_pos e1.symm, if_pos e2.symm, wsu (by omega)]
theorem l2_one (m t a : List S26) (ht : t.Perm m) (ha : a.Perm (comb five m)) (hml : m.length ≤ 50) (hal : a.length ≤ 50) (w : Int) (tag nd : Nat) (hg : tag ≤ 3) (ho : nd ≤ 3) (K : Nat) (hK : 1100 ≤ K) :
    reticulelaw21_MailOrder.l2 (K + 2) w five m t a tag nd = reticulelaw21_MailOrder.l2 K w five m t a tag ((nd + 1 : Nat) : Int) := by
  rw [show K + 2 = (K + 1) + 1 from rfl]
  simp only [reticulelaw21_MailOrder.l2]
  rw [if_pos (by omega), if_pos (by omega), if_pos (show (tag : Int) < (five.length : Int) by show _ < (5 : Int); omega)]
  split
  · exact j4_ok m t a ht ha hml hal w tag nd hg ho _ K hK
  · exact j4_ok m t a ht ha hml hal w tag nd hg ho _ K hK
theorem l1_one (m t a : List S26) (ht : t.Perm m) (ha : a.Perm (comb five m)) (hml : m.length ≤ 50) (hal : a.length ≤ 50) (w : Int) (tag : Nat) (hg : tag ≤ 3) (K : Nat) (hK : 1100 ≤ K) : reticulelaw21_MailOrder.l1 (K + 10) w five m t a tag = reticulelaw21_MailOrder.l1 K w five m t a ((tag + 1 : Nat) : Int) := by
  rw [show K + 10 = (K + 9) + 1 from rfl]
  simp only [reticulelaw21_MailOrder.l1]
  rw [if_pos (by omega)]
  have s0 := l2_one m t a ht ha hml hal w tag 0 hg (by omega) (K + 7) (by omega)
  have s1 := l2_one m t a ht ha hml hal w tag 1 hg (by omega) (K + 5) (by omega)
  have s2 := l2_one m t a ht ha hml hal w tag 2 hg (by omega) (K + 3) (by omega)
  have s3 := l2_one m t a ht ha hml hal w tag 3 hg (by omega) (K + 1) (by omega)
  refine (s0.trans (s1.trans (s2.trans s3))).trans ?_
  simp only [reticulelaw21_MailOrder.l2]
  rw [if_neg (by omega), wsu (by omega)]
theorem l1_all (m t a : List S26) (ht : t.Perm m) (ha : a.Perm (comb five m)) (hml : m.length ≤ 50) (hal : a.length ≤ 50) (w : Int) (K : Nat) (hK : 1100 ≤ K) : reticulelaw21_MailOrder.l1 (K + 41) w five m t a 0 = some true := by
  have s0 := l1_one m t a ht ha hml hal w 0 (by omega) (K + 31) (by omega)
  have s1 := l1_one m t a ht ha hml hal w 1 (by omega) (K + 21) (by omega)
  have s2 := l1_one m t a ht ha hml hal w 2 (by omega) (K + 11) (by omega)
  have s3 := l1_one m t a ht ha hml hal w 3 (by omega) (K + 1) (by omega)
  refine (s0.trans (s1.trans (s2.trans s3))).trans ?_
  simp only [reticulelaw21_MailOrder.l1]
  rw [if_neg (by omega), live_y K (by omega)]
  rfl
theorem order_f (l : List S26) (k w : Int) (h0 : 0 ≤ k) (h1 : k ≤ 18446744073709551615) (hr : ∀ m ∈ l, inr m) (F : Nat) (hF : 3000 ≤ F) : reticulelaw21_MailOrder.f F l k w = some true := by
  unfold reticulelaw21_MailOrder.f
  have hx := List.length_take_le 50 l
  have hr' : ∀ m ∈ l.take 50, inr m := fun m hm => hr m (List.mem_of_mem_take hm)
  rw [few_d]
  simp only [Option.bind_some]
  generalize l.take 50 = l at hx hr'
  refine loop0 l k w hx true 2000 (fun K hK => ?_) l.length 0 F (by omega) (by omega)
  have hm : ∀ x ∈ l.map nrm, 0 ≤ x.f1 ∧ x.f1 ≤ 3 := fun x hx => by
    obtain ⟨y, _, rfl⟩ := List.mem_map.1 hx
    exact nrm1 y
  have hin : ∀ x ∈ l.map nrm, inr x := fun x hx => by
    obtain ⟨y, hy, rfl⟩ := List.mem_map.1 hx
    have := nrm1 y
    exact ⟨by rw [nrm0]; exact (hr' y hy).1, by omega, by omega⟩
  have hml : (l.map nrm).length ≤ 50 := by simpa using hx
  have hlm : (l.length : Int) = ((l.map nrm).length : Int) := by simp
  simp only [reticulelaw21_MailOrder.l0]
  rw [if_neg (by omega)]
  generalize l.map nrm = m at hm hin hml
  have htp := turnl_perm m k.toNat
  have htl := htp.length_eq
  have htg : ∀ x ∈ m, tg five x := fun x hx => ⟨(hm x hx).1, by have := (hm x hx).2; show _ < (5 : Int); omega⟩
  have hto : ∀ x ∈ m, takes (opOf five x) := fun x hx => five_takes (hm x hx).1 (hm x hx).2
  unfold mail_Turned.f
  rw [if_pos ⟨by omega, h0, h1⟩]
  simp only [Option.bind_some]
  unfold mail_Combined.f
  rw [if_pos ⟨hin, by omega, by decide⟩, if_pos htg, if_pos hto, if_pos ⟨fun x hx => hin x (htp.mem_iff.1 hx), by omega, by decide⟩, if_pos (fun x hx => htg x (htp.mem_iff.1 hx)), if_pos (fun x hx => hto x (htp.mem_iff.1 hx))]
  simp only [Option.bind_some, if_true]
  have hcl : ((comb five m).mergeSort le).length ≤ 50 := by
    have := fold_len five m []
    simp at this
    rw [List.length_mergeSort]
    unfold comb
    omega
  rw [sort_perm (comb_perm five htp (fun x hx => hto x (htp.mem_iff.1 hx))), same_f _ (by omega) K (by omega)]
  simp only [Option.bind_some, Bool.not_true]
  obtain ⟨K, rfl⟩ : ∃ q, K = q + 42 := ⟨K - 42, by omega⟩
  rw [show K + 42 = (K + 41) + 1 from rfl]
  simp only [reticulelaw21_MailOrder.j1]
  rw [if_neg (by decide)]
  exact l1_all m (turnl m k.toNat) _ htp (List.mergeSort_perm _ _) hml hcl w K (by omega)
theorem order_w (w : World) (A : Option Addr) (c : Nat) (l : List S26) (hc : l.length ≤ c) (hr : Kd.C k26 w A l.length l) (hg : l.length ≤ maxLen ∧ ∀ x ∈ l, (Lit.int .i64 x.f0).wf = true ∧ (Lit.int .i64 x.f1).wf = true ∧ (Lit.int .i64 x.f2).wf = true) (hs : l.length * 24 ≤ 140737488351232) (v : Int) (wf : (Lit.int .u64 v).wf = true) (nd : Int) (wf2 : (Lit.int .i64 nd).wf = true) :
    Calls Try.prog 7 #[.slice A l.length c, .int .u64 v, .int .i64 nd] w fun e w' => e = .returned (.bool true) ∧ Below w.heap.size w w' := by
  have hv : 0 ≤ v ∧ v ≤ 18446744073709551615 := by simpa [Lit.wf, IntKind.min, IntKind.max, IntKind.signed, IntKind.bits] using wf
  have hi : ∀ {a : Int}, (Lit.int .i64 a).wf = true → -9223372036854775808 ≤ a ∧ a ≤ 9223372036854775807 := fun h => by simpa [Lit.wf, IntKind.min, IntKind.max, IntKind.signed, IntKind.bits] using h
  exact reticulelaw21_MailOrder.calls 3000 A c l v nd true w hr hc (order_f l v nd hv.1 hv.2 (fun m hm => ⟨hi (hg.2 m hm).1, hi (hg.2 m hm).2.1⟩) 3000 (Nat.le_refl _))
end Go.Proofs.Ythmenclkgngkkaa.O
