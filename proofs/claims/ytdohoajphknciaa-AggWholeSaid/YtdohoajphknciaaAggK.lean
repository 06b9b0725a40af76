/- What the laws of agg are given. -/
import Derived.Test.YtdohoajphknciaaOpen
import Derived.Test.YtdohoajphknciaaAggQ
set_option linter.unusedSimpArgs false
set_option linter.unusedVariables false
namespace Go.Proofs.Ytdohoajphknciaa.Agg
open Go.RowKit Go.Proofs.Ytdohoajphknciaa.Open Go.Proofs.YtdohoajphknciaaW.PrintWords
theorem opn_deed : Opn Try.prog Deed gDeed 48 :=
 opn_struct Try.underlying48 (by kernel_rfl) (by kernel_rfl) (opnF_cons (opn_int Try.underlying3 (by kernel_rfl)) (opnF_cons (opn_int Try.underlying3 (by kernel_rfl)) (opnF_one (opn_int Try.underlying34 (by kernel_rfl)))))
theorem opn_deeds : Opn Try.prog (Kd.slice 48 Deed) (fun l => l.length ≤ maxLen ∧ ∀ x ∈ l, gDeed x) 23 := opn_slice Try.underlying23 (by kernel_rfl) opn_deed
end Go.Proofs.Ytdohoajphknciaa.Agg
