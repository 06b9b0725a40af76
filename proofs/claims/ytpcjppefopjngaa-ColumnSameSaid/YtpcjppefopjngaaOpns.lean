/- What the laws of column are given. -/
import Derived.Test.YtpcjppefopjngaaOpen
import Derived.Test.YtpcjppefopjngaaLz
set_option linter.unusedSimpArgs false
set_option linter.unusedVariables false
namespace Go.Proofs.Ytpcjppefopjngaa.C
open Go.RowKit Go.Proofs.Ytpcjppefopjngaa.PA Go.Proofs.Ytpcjppefopjngaa.Open Go.Proofs.YtpcjppefopjngaaW.PrintWords
theorem opn_iso {α β : Type} {P : Program} {d : Kd β} {g : β → Prop} {t : TypeId} (f : α → β) (inv : β → α) (hi : ∀ y, f (inv y) = y) (h : Opn P d g t) : Opn P (Kd.iso d f) (fun x => g (f x)) t := by
  refine ⟨h.1, fun H enc w spare held fuel cs x hx => ?_⟩
  obtain ⟨y, h1, h2⟩ := h.2 H enc w spare held fuel cs x hx
  exact ⟨inv y, by show d.K _ (f (inv y)) _; rw [hi]; exact h1, by show g (f (inv y)); rw [hi]; exact h2⟩
theorem opn_key : Opn Try.prog (Kd.pair Kd.string (Kd.int .u8)) (fun x => x.1.size ≤ maxLen ∧ (Lit.int .u8 x.2).wf = true) 25 :=
  opn_struct Try.underlying25 (by kernel_rfl) (by kernel_rfl) (opnF_cons (opn_string Try.underlying9 (by kernel_rfl)) (opnF_one (opn_int Try.underlying23 (by kernel_rfl))))
theorem opn_k25 : Opn Try.prog k25 (fun x => x.f0.size ≤ maxLen ∧ (Lit.int .u8 x.f1).wf = true) 25 := opn_iso (fun x : S25 => (x.f0, x.f1)) (fun y => ⟨y.1, y.2⟩) (fun _ => rfl) opn_key
theorem opn_words : Opn Try.prog (Kd.slice 33 (Kd.int .i64)) (fun l => l.length ≤ maxLen ∧ ∀ x ∈ l, (Lit.int .i64 x).wf = true) 42 := opn_slice Try.underlying42 (by kernel_rfl) (opn_int Try.underlying33 (by kernel_rfl))
theorem opn_deed : Opn Try.prog kD gd' 52 :=
  opn_iso (fun d : Dd => (d.k, (d.nm, d.sd), d.of, d.i, d.x, d.l)) (fun y => ⟨y.1, y.2.1.1, y.2.1.2, y.2.2.1, y.2.2.2.1, y.2.2.2.2.1, y.2.2.2.2.2⟩) (fun _ => rfl)
    (opn_struct Try.underlying52 (by kernel_rfl) (by kernel_rfl) (opnF_cons (opn_int Try.underlying3 (by kernel_rfl)) (opnF_cons opn_key (opnF_cons (opn_int Try.underlying45 (by kernel_rfl)) (opnF_cons (opn_int Try.underlying3 (by kernel_rfl)) (opnF_cons (opn_int Try.underlying33 (by kernel_rfl)) (opnF_one opn_words)))))))
theorem opn_deeds : Opn Try.prog (Kd.slice 52 kD) (fun l => l.length ≤ maxLen ∧ ∀ x ∈ l, gd' x) 22 := opn_slice Try.underlying22 (by kernel_rfl) opn_deed

end Go.Proofs.Ytpcjppefopjngaa.C
