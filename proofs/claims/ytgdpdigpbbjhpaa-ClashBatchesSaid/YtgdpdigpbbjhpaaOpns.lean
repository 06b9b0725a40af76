/- What the laws of clash are given. -/
import Derived.Test.YtgdpdigpbbjhpaaOpen
import Derived.Test.YtgdpdigpbbjhpaaPAx0
set_option linter.unusedSimpArgs false
set_option linter.unusedVariables false
namespace Go.Proofs.Ytgdpdigpbbjhpaa.C
open Go.RowKit Go.Proofs.Ytgdpdigpbbjhpaa.PA Go.Proofs.Ytgdpdigpbbjhpaa.Open Go.Proofs.YtgdpdigpbbjhpaaW.PrintWords
theorem opn_iso {α β : Type} {P : Program} {d : Kd β} {g : β → Prop} {t : TypeId} (f : α → β) (inv : β → α) (hi : ∀ y, f (inv y) = y) (h : Opn P d g t) : Opn P (Kd.iso d f) (fun x => g (f x)) t := by
  refine ⟨h.1, fun H enc w spare held fuel cs x hx => ?_⟩
  obtain ⟨y, h1, h2⟩ := h.2 H enc w spare held fuel cs x hx
  exact ⟨inv y, by show d.K _ (f (inv y)) _; rw [hi]; exact h1, by show g (f (inv y)); rw [hi]; exact h2⟩
def ga (x : S39) : Prop := (Lit.int .u8 x.f0).wf = true ∧ x.f1.size ≤ maxLen ∧ (Lit.int .u8 x.f2).wf = true ∧ True ∧ (Lit.int .i64 x.f4).wf = true ∧ (Lit.int .i64 x.f5).wf = true
theorem opn_39 : Opn Try.prog k39 ga 39 :=
  opn_iso (fun x : S39 => (x.f0, x.f1, x.f2, x.f3, x.f4, x.f5)) (fun y => ⟨y.1, y.2.1, y.2.2.1, y.2.2.2.1, y.2.2.2.2.1, y.2.2.2.2.2⟩) (fun _ => rfl) (opn_struct Try.underlying39 (by kernel_rfl) (by kernel_rfl) (opnF_cons (opn_int Try.underlying36 (by kernel_rfl)) (opnF_cons (opn_string Try.underlying9 (by kernel_rfl)) (opnF_cons (opn_int Try.underlying37 (by kernel_rfl)) (opnF_cons (opn_bool Try.underlying4 (by kernel_rfl)) (opnF_cons (opn_int Try.underlying3 (by kernel_rfl)) (opnF_one (opn_int Try.underlying3 (by kernel_rfl)))))))))
theorem opn_acts : Opn Try.prog (Kd.slice 39 k39) (fun l => l.length ≤ maxLen ∧ ∀ x ∈ l, ga x) 22 := opn_slice Try.underlying22 (by kernel_rfl) opn_39
end Go.Proofs.Ytgdpdigpbbjhpaa.C
