/- Messages in the order of a number are the messages, each once: plain. -/
import Derived.Test.YthmenclkgngkkaaTd
import Derived.Test.YthmenclkgngkkaaPb
import Derived.Test.YthmenclkgngkkaaPDx1
set_option linter.unusedSimpArgs false
set_option linter.unusedVariables false
namespace Go.Proofs.Ythmenclkgngkkaa.M
open Go.RowKit Go.Proofs.Ythmenclkgngkkaa.Perm Go.Proofs.Ythmenclkgngkkaa.PA Go.Proofs.Ythmenclkgngkkaa.PB Go.Proofs.Ythmenclkgngkkaa.PD Go.Proofs.YthmenclkgngkkaaW.PrintWords Go.Proofs.YthmenclkgngkkaaW.PrintMore Go.Proofs.YthmenclkgngkkaaW.PrintLast
theorem upto_map (row : List S26) : (upto row.length).map (fun x => row.getD x.toNat zm) = row := by
  unfold upto
  rw [List.map_map]
  apply List.ext_getElem
  · simp
  · intro i h1 h2
    simp [List.getD, h2]
theorem turn1_perm (row : List S26) (k : Nat) : (turn1 row k).Perm row := by
  unfold turn1
  exact ((ord_perm row.length k).map _).trans (by rw [upto_map])
theorem chunks_to (l : List S26) : ∀ m, ((List.range m).map (fun j => chk l (16 * j))).flatten = l.take (16 * m)
  | 0 => by simp
  | m + 1 => by
    rw [List.range_succ, List.map_append, List.flatten_append, chunks_to l m]
    simp only [List.map_cons, List.map_nil, List.flatten_cons, List.flatten_nil, List.append_nil]
    unfold chk
    rw [show 16 * (m + 1) = 16 * m + 16 by omega, List.take_add]
theorem chunks_all (l : List S26) : ((starts l.length).map (fun i => chk l i)).flatten = l := by
  unfold starts
  rw [List.map_map]
  exact (chunks_to l _).trans (List.take_of_length_le (by omega))
theorem flat_perm (k : Nat) (l : List S26) : ∀ s : List Nat, ((s.map (fun i => turn1 (chk l i) k)).flatten).Perm ((s.map (fun i => chk l i)).flatten)
  | [] => List.Perm.nil
  | i :: s => by
    simp only [List.map_cons, List.flatten_cons]
    exact (turn1_perm _ k).append (flat_perm k l s)
theorem turnl_perm (l : List S26) (k : Nat) : (turnl l k).Perm l := by
  have h : (((starts l.length).map (fun i => turn1 (chk l i) k)).flatten).Perm l := (flat_perm k l _).trans (by rw [chunks_all])
  unfold turnl
  simp only
  split
  · exact (List.Perm.flatten (List.reverse_perm _)).trans h
  · exact h
theorem few_d (l : List S26) : PD.reticulelaw21_few.f l = some (l.take 50) := by
  unfold PD.reticulelaw21_few.f
  by_cases h : (l.length : Int) > 50
  · rw [if_pos h, if_pos (by omega)]
  · rw [if_neg h, List.take_of_length_le (by omega)]
theorem live_y (k : Nat) (hk : 30 ≤ k) : reticulelaw21_live.f k = some true := LeO_le (F := fun k => reticulelaw21_live.f k) reticulelaw21_live.mono hk live_yes
theorem once_f (l : List S26) (k : Int) (h0 : 0 ≤ k) (h1 : k ≤ 18446744073709551615) : reticulelaw21_MailOnce.f 2000 l k = some true := by
  unfold reticulelaw21_MailOnce.f
  have hx := List.length_take_le 50 l
  rw [few_d]
  simp only [Option.bind_some]
  generalize l.take 50 = l at hx
  have hp := turnl_perm l k.toNat
  have hl := hp.length_eq
  unfold mail_Turned.f
  rw [if_pos ⟨by omega, h0, h1⟩]
  simp only [Option.bind_some]
  rw [live_y 2000 (by decide)]
  simp only [Option.bind_some, if_true]
  rw [if_pos (by omega)]
  unfold mail_Sorted.f
  rw [if_pos (by omega), if_pos (by omega), sort_perm hp]
  simp only [Option.bind_some]
  rw [same_f _ (by simp; omega) 2000 (by decide)]
  rfl
theorem once_w (w : World) (A : Option Addr) (c : Nat) (l : List S26) (hc : l.length ≤ c) (hr : Kd.C k26 w A l.length l) (hg : l.length ≤ maxLen ∧ ∀ x ∈ l, (Lit.int .i64 x.f0).wf = true ∧ (Lit.int .i64 x.f1).wf = true ∧ (Lit.int .i64 x.f2).wf = true) (hs : l.length * 24 ≤ 140737488351232) (v : Int) (wf : (Lit.int .u64 v).wf = true) :
    Calls Try.prog 9 #[.slice A l.length c, .int .u64 v] w fun e w' => e = .returned (.bool true) ∧ Below w.heap.size w w' := by
  have hv : 0 ≤ v ∧ v ≤ 18446744073709551615 := by simpa [Lit.wf, IntKind.min, IntKind.max, IntKind.signed, IntKind.bits] using wf
  exact reticulelaw21_MailOnce.calls 2000 A c l v true w hr hc (once_f l v hv.1 hv.2)
end Go.Proofs.Ythmenclkgngkkaa.M
