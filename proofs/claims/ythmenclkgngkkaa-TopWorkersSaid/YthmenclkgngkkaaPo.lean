/- Messages in the order of a number are the messages, each once: plain. -/
import Derived.Test.YthmenclkgngkkaaTd
import Derived.Test.YthmenclkgngkkaaPb
import Derived.Test.YthmenclkgngkkaaPDx1
set_option linter.unusedSimpArgs false
set_option linter.unusedVariables false
namespace Go.Proofs.Ythmenclkgngkkaa.M
open Go.RowKit Go.Proofs.Ythmenclkgngkkaa.Perm Go.Proofs.Ythmenclkgngkkaa.PA Go.Proofs.Ythmenclkgngkkaa.PB Go.Proofs.Ythmenclkgngkkaa.PD Go.Proofs.YthmenclkgngkkaaW.PrintWords Go.Proofs.YthmenclkgngkkaaW.PrintMore Go.Proofs.YthmenclkgngkkaaW.PrintLast
theorem upto_map (row : List S26) : (upto row.length).map (fun x => row.getD x.toNat zm) = row := by
  unfold upto
  rw [List.map_map]
  apply List.ext_getElem
  · simp
  · intro i h1 h2
    simp [List.getD, h2]
theorem turn1_perm (row : List S26) (k : Nat) : (turn1 row k).Perm row := by
  unfold turn1
  exact ((ord_perm row.length k).map _).trans (by rw [upto_map])
theorem chunks_to (l : List S26) : ∀ m, ((List.range m).map (fun j => chk l (16 * j))).flatten = l.take (16 * m)
  | 0 => by simp
  | m + 1 => by
    rw [List.range_succ, List.map_append, List.flatten_append, chunks_to l m]
    simp only [List.map_cons, List.map_nil, List.flatten_cons, List.flatten_nil, List.append_nil]
    unfold chk
    rw [show 16 * (m + 1) = 16 * m + 16 by omega, List.take_add]
theorem chunks_all (l : List S26) : ((starts l.length).map (fun i => chk l i)).flatten = l := by
  unfold starts
  rw [List.map_map]
  exact (chunks_to l _).trans (List.take_of_length_le (by omega))
theorem flat_perm (k : Nat) (l : List S26) : ∀ s : List Nat, ((s.map (fun i => turn1 (chk l i) k)).flatten).Perm ((s.map (fun i => chk l i)).flatten)
  | [] => List.Perm.nil
  | i :: s => by
    simp only [List.map_cons, List.flatten_cons]
    exact (turn1_perm _ k).append (flat_perm k l s)
theorem turnl_perm (l : List S26) (k : Nat) : (turnl l k).Perm l := by
  have h : (((starts l.length).map (fun i => turn1 (chk l i) k)).flatten).Perm l := (flat_perm k l _).trans (by rw [chunks_all])
  unfold turnl
  simp only
  split
  · exact (List.Perm.flatten (List.reverse_perm _)).trans h
  · exact h
end Go.Proofs.Ythmenclkgngkkaa.M
