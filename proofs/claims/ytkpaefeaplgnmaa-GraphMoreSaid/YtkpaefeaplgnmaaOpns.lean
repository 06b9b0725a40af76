/- What the laws of graph are given. -/
import Derived.Test.YtkpaefeaplgnmaaOpen
import Derived.Test.YtkpaefeaplgnmaaPAx0
set_option linter.unusedSimpArgs false
set_option linter.unusedVariables false
namespace Go.Proofs.Ytkpaefeaplgnmaa.G
open Go.RowKit Go.Proofs.Ytkpaefeaplgnmaa.PA Go.Proofs.Ytkpaefeaplgnmaa.Open Go.Proofs.YtkpaefeaplgnmaaW.PrintWords
theorem opn_iso {α β : Type} {P : Program} {d : Kd β} {g : β → Prop} {t : TypeId} (f : α → β) (inv : β → α) (hi : ∀ y, f (inv y) = y) (h : Opn P d g t) : Opn P (Kd.iso d f) (fun x => g (f x)) t := by
  refine ⟨h.1, fun H enc w spare held fuel cs x hx => ?_⟩
  obtain ⟨y, h1, h2⟩ := h.2 H enc w spare held fuel cs x hx
  exact ⟨inv y, by show d.K _ (f (inv y)) _; rw [hi]; exact h1, by show g (f (inv y)); rw [hi]; exact h2⟩
theorem opn_53 : Opn Try.prog k53 (fun x => (Lit.int .i64 x.f0).wf = true ∧ (Lit.int .i64 x.f1).wf = true) 53 :=
  opn_iso (fun x : S53 => (x.f0, x.f1)) (fun y => ⟨y.1, y.2⟩) (fun _ => rfl) (opn_struct Try.underlying53 (by kernel_rfl) (by kernel_rfl) (opnF_cons (opn_int Try.underlying3 (by kernel_rfl)) (opnF_one (opn_int Try.underlying3 (by kernel_rfl)))))
theorem opn_edges : Opn Try.prog (Kd.slice 53 k53) (fun l => l.length ≤ maxLen ∧ ∀ x ∈ l, (Lit.int .i64 x.f0).wf = true ∧ (Lit.int .i64 x.f1).wf = true) 22 := opn_slice Try.underlying22 (by kernel_rfl) opn_53
end Go.Proofs.Ytkpaefeaplgnmaa.G
