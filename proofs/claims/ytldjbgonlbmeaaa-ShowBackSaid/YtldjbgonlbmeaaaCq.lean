/- Cells of a box of four behind stores. -/
import Derived.Test.YtldjbgonlbmeaaaWWords
namespace Go.Proofs.Ytldjbgonlbmeaaa.Cq
open Go.RowKit
section
variable {W : World} {g : Nat} {x y z u : Value} {t : TypeId}
theorem cqC (h : W.heap[g]? = some (.cells #[x, y, z, u] t (0, 0))) (a b c d e f : Value) : ((((((W.setCell ⟨g, 0, none⟩ a).setCell ⟨g, 1, none⟩ b).setCell ⟨g, 2, none⟩ c).setCell ⟨g, 3, none⟩ d).setCell ⟨g, 0, none⟩ e).setCell ⟨g, 1, none⟩ f).heap[g]? = some (.cells #[e, f, c, d] t (0, 0)) := by
 simp [World.setCell, Array.getElem?_modify, h]
theorem cqC0 (h : W.heap[g]? = some (.cells #[x, y, z, u] t (0, 0))) (a b c d e f : Value) : ((((((W.setCell ⟨g, 0, none⟩ a).setCell ⟨g, 1, none⟩ b).setCell ⟨g, 2, none⟩ c).setCell ⟨g, 3, none⟩ d).setCell ⟨g, 0, none⟩ e).setCell ⟨g, 1, none⟩ f).cell? ⟨g, 0, none⟩ = some e := by unfold World.cell?; rw [cqC h]; rfl
theorem cqC1 (h : W.heap[g]? = some (.cells #[x, y, z, u] t (0, 0))) (a b c d e f : Value) : ((((((W.setCell ⟨g, 0, none⟩ a).setCell ⟨g, 1, none⟩ b).setCell ⟨g, 2, none⟩ c).setCell ⟨g, 3, none⟩ d).setCell ⟨g, 0, none⟩ e).setCell ⟨g, 1, none⟩ f).cell? ⟨g, 1, none⟩ = some f := by unfold World.cell?; rw [cqC h]; rfl
theorem cqC2 (h : W.heap[g]? = some (.cells #[x, y, z, u] t (0, 0))) (a b c d e f : Value) : ((((((W.setCell ⟨g, 0, none⟩ a).setCell ⟨g, 1, none⟩ b).setCell ⟨g, 2, none⟩ c).setCell ⟨g, 3, none⟩ d).setCell ⟨g, 0, none⟩ e).setCell ⟨g, 1, none⟩ f).cell? ⟨g, 2, none⟩ = some c := by unfold World.cell?; rw [cqC h]; rfl
theorem cqC3 (h : W.heap[g]? = some (.cells #[x, y, z, u] t (0, 0))) (a b c d e f : Value) : ((((((W.setCell ⟨g, 0, none⟩ a).setCell ⟨g, 1, none⟩ b).setCell ⟨g, 2, none⟩ c).setCell ⟨g, 3, none⟩ d).setCell ⟨g, 0, none⟩ e).setCell ⟨g, 1, none⟩ f).cell? ⟨g, 3, none⟩ = some d := by unfold World.cell?; rw [cqC h]; rfl
theorem cqF (h : W.heap[g]? = some (.cells #[x, y, z, u] t (0, 0))) (e : Value) : (W.setCell ⟨g, 0, none⟩ e).heap[g]? = some (.cells #[e, y, z, u] t (0, 0)) := by
 simp [World.setCell, Array.getElem?_modify, h]
theorem cqF0 (h : W.heap[g]? = some (.cells #[x, y, z, u] t (0, 0))) (e : Value) : (W.setCell ⟨g, 0, none⟩ e).cell? ⟨g, 0, none⟩ = some e := by unfold World.cell?; rw [cqF h]; rfl
theorem cqH (h : W.heap[g]? = some (.cells #[x, y, z, u] t (0, 0))) (e : Value) : (W.setCell ⟨g, 2, none⟩ e).heap[g]? = some (.cells #[x, y, e, u] t (0, 0)) := by
 simp [World.setCell, Array.getElem?_modify, h]
theorem cqH0 (h : W.heap[g]? = some (.cells #[x, y, z, u] t (0, 0))) (e : Value) : (W.setCell ⟨g, 2, none⟩ e).cell? ⟨g, 0, none⟩ = some x := by unfold World.cell?; rw [cqH h]; rfl
theorem cqI (h : W.heap[g]? = some (.cells #[x, y, z, u] t (0, 0))) (e f : Value) : ((W.setCell ⟨g, 2, none⟩ e).setCell ⟨g, 1, none⟩ f).heap[g]? = some (.cells #[x, f, e, u] t (0, 0)) := by
 simp [World.setCell, Array.getElem?_modify, h]
theorem cqI0 (h : W.heap[g]? = some (.cells #[x, y, z, u] t (0, 0))) (e f : Value) : ((W.setCell ⟨g, 2, none⟩ e).setCell ⟨g, 1, none⟩ f).cell? ⟨g, 0, none⟩ = some x := by unfold World.cell?; rw [cqI h]; rfl
theorem cqI1 (h : W.heap[g]? = some (.cells #[x, y, z, u] t (0, 0))) (e f : Value) : ((W.setCell ⟨g, 2, none⟩ e).setCell ⟨g, 1, none⟩ f).cell? ⟨g, 1, none⟩ = some f := by unfold World.cell?; rw [cqI h]; rfl
theorem cqI2 (h : W.heap[g]? = some (.cells #[x, y, z, u] t (0, 0))) (e f : Value) : ((W.setCell ⟨g, 2, none⟩ e).setCell ⟨g, 1, none⟩ f).cell? ⟨g, 2, none⟩ = some e := by unfold World.cell?; rw [cqI h]; rfl
theorem cqI3 (h : W.heap[g]? = some (.cells #[x, y, z, u] t (0, 0))) (e f : Value) : ((W.setCell ⟨g, 2, none⟩ e).setCell ⟨g, 1, none⟩ f).cell? ⟨g, 3, none⟩ = some u := by unfold World.cell?; rw [cqI h]; rfl
end
end Go.Proofs.Ytldjbgonlbmeaaa.Cq
