/- What the laws of graph's bytes are given. -/
import Derived.Test.YtkpaefeaplgnmaaOpns
namespace Go.Proofs.Ytkpaefeaplgnmaa.G
open Go.RowKit Go.Proofs.Ytkpaefeaplgnmaa.PA Go.Proofs.Ytkpaefeaplgnmaa.Open Go.Proofs.YtkpaefeaplgnmaaW.PrintWords
theorem opn_bytes : Opn Try.prog (Kd.slice 5 (Kd.int .u8)) (fun l => l.length ≤ maxLen ∧ ∀ x ∈ l, (Lit.int .u8 x).wf = true) 42 := opn_slice Try.underlying42 (by kernel_rfl) (opn_int Try.underlying5 (by kernel_rfl))
end Go.Proofs.Ytkpaefeaplgnmaa.G
