/- What the laws of mail are given. -/
import Derived.Test.YthmenclkgngkkaaOpen
import Derived.Test.YthmenclkgngkkaaPAx0
set_option linter.unusedSimpArgs false
set_option linter.unusedVariables false
namespace Go.Proofs.Ythmenclkgngkkaa.M
open Go.RowKit Go.Proofs.Ythmenclkgngkkaa.PA Go.Proofs.Ythmenclkgngkkaa.Open Go.Proofs.YthmenclkgngkkaaW.PrintWords
theorem opn_iso {α β : Type} {P : Program} {d : Kd β} {g : β → Prop} {t : TypeId} (f : α → β) (inv : β → α) (hi : ∀ y, f (inv y) = y) (h : Opn P d g t) : Opn P (Kd.iso d f) (fun x => g (f x)) t := by
  refine ⟨h.1, fun H enc w spare held fuel cs x hx => ?_⟩
  obtain ⟨y, h1, h2⟩ := h.2 H enc w spare held fuel cs x hx
  exact ⟨inv y, by show d.K _ (f (inv y)) _; rw [hi]; exact h1, by show g (f (inv y)); rw [hi]; exact h2⟩
def ga (x : S26) : Prop := (Lit.int .i64 x.f0).wf = true ∧ (Lit.int .i64 x.f1).wf = true ∧ (Lit.int .i64 x.f2).wf = true
theorem opn_26 : Opn Try.prog k26 ga 26 :=
  opn_iso (fun x : S26 => (x.f0, x.f1, x.f2)) (fun y => ⟨y.1, y.2.1, y.2.2⟩) (fun _ => rfl) (opn_struct Try.underlying26 (by kernel_rfl) (by kernel_rfl) (opnF_cons (opn_int Try.underlying3 (by kernel_rfl)) (opnF_cons (opn_int Try.underlying3 (by kernel_rfl)) (opnF_one (opn_int Try.underlying24 (by kernel_rfl))))))
theorem opn_msgs : Opn Try.prog (Kd.slice 26 k26) (fun l => l.length ≤ maxLen ∧ ∀ x ∈ l, ga x) 22 := opn_slice Try.underlying22 (by kernel_rfl) opn_26
end Go.Proofs.Ythmenclkgngkkaa.M
