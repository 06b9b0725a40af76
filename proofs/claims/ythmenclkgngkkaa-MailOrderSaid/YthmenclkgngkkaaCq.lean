/- Cells of a box of three behind stores. -/
import Derived.Test.YthmenclkgngkkaaWWords
namespace Go.Proofs.Ythmenclkgngkkaa.M
open Go.RowKit
section
variable {W : World} {g : Nat} {x y z : Value} {t : TypeId}
theorem cq4 (h : W.heap[g]? = some (.cells #[x, y, z] t (0, 0))) (a b c d : Value) :
    ((((W.setCell ⟨g, 0, none⟩ a).setCell ⟨g, 1, none⟩ b).setCell ⟨g, 2, none⟩ c).setCell ⟨g, 1, none⟩ d).heap[g]? = some (.cells #[a, d, c] t (0, 0)) := by
  simp [World.setCell, Array.getElem?_modify, h]
theorem cq5 (h : W.heap[g]? = some (.cells #[x, y, z] t (0, 0))) (a b c d e : Value) :
    (((((W.setCell ⟨g, 0, none⟩ a).setCell ⟨g, 1, none⟩ b).setCell ⟨g, 2, none⟩ c).setCell ⟨g, 1, none⟩ d).setCell ⟨g, 2, none⟩ e).heap[g]? = some (.cells #[a, d, e] t (0, 0)) := by
  simp [World.setCell, Array.getElem?_modify, h]
theorem cq40 (h : W.heap[g]? = some (.cells #[x, y, z] t (0, 0))) (a b c d : Value) : ((((W.setCell ⟨g, 0, none⟩ a).setCell ⟨g, 1, none⟩ b).setCell ⟨g, 2, none⟩ c).setCell ⟨g, 1, none⟩ d).cell? ⟨g, 0, none⟩ = some a := by unfold World.cell?; rw [cq4 h]; rfl
theorem cq41 (h : W.heap[g]? = some (.cells #[x, y, z] t (0, 0))) (a b c d : Value) : ((((W.setCell ⟨g, 0, none⟩ a).setCell ⟨g, 1, none⟩ b).setCell ⟨g, 2, none⟩ c).setCell ⟨g, 1, none⟩ d).cell? ⟨g, 1, none⟩ = some d := by unfold World.cell?; rw [cq4 h]; rfl
theorem cq42 (h : W.heap[g]? = some (.cells #[x, y, z] t (0, 0))) (a b c d : Value) : ((((W.setCell ⟨g, 0, none⟩ a).setCell ⟨g, 1, none⟩ b).setCell ⟨g, 2, none⟩ c).setCell ⟨g, 1, none⟩ d).cell? ⟨g, 2, none⟩ = some c := by unfold World.cell?; rw [cq4 h]; rfl
theorem cq50 (h : W.heap[g]? = some (.cells #[x, y, z] t (0, 0))) (a b c d e : Value) : (((((W.setCell ⟨g, 0, none⟩ a).setCell ⟨g, 1, none⟩ b).setCell ⟨g, 2, none⟩ c).setCell ⟨g, 1, none⟩ d).setCell ⟨g, 2, none⟩ e).cell? ⟨g, 0, none⟩ = some a := by unfold World.cell?; rw [cq5 h]; rfl
theorem cq51 (h : W.heap[g]? = some (.cells #[x, y, z] t (0, 0))) (a b c d e : Value) : (((((W.setCell ⟨g, 0, none⟩ a).setCell ⟨g, 1, none⟩ b).setCell ⟨g, 2, none⟩ c).setCell ⟨g, 1, none⟩ d).setCell ⟨g, 2, none⟩ e).cell? ⟨g, 1, none⟩ = some d := by unfold World.cell?; rw [cq5 h]; rfl
theorem cq52 (h : W.heap[g]? = some (.cells #[x, y, z] t (0, 0))) (a b c d e : Value) : (((((W.setCell ⟨g, 0, none⟩ a).setCell ⟨g, 1, none⟩ b).setCell ⟨g, 2, none⟩ c).setCell ⟨g, 1, none⟩ d).setCell ⟨g, 2, none⟩ e).cell? ⟨g, 2, none⟩ = some e := by unfold World.cell?; rw [cq5 h]; rfl
end
end Go.Proofs.Ythmenclkgngkkaa.M
