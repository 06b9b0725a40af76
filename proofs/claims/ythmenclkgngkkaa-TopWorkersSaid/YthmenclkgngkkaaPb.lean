/- Plain facts of messages' bytes. -/
import Derived.Test.YthmenclkgngkkaaPBx1
import Derived.Test.YthmenclkgngkkaaCo
set_option linter.unusedSimpArgs false
set_option linter.unusedVariables false
namespace Go.Proofs.Ythmenclkgngkkaa.M
open Go.RowKit Go.Proofs.Ythmenclkgngkkaa.PA Go.Proofs.Ythmenclkgngkkaa.PB Go.Proofs.Ythmenclkgngkkaa.Dig Go.Proofs.YthmenclkgngkkaaW.PrintWords Go.Proofs.YthmenclkgngkkaaW.PrintMore Go.Proofs.YthmenclkgngkkaaW.PrintLast
def r2 (m : S26) : Prop := -9223372036854775808 ≤ m.f2 ∧ m.f2 ≤ 9223372036854775807
instance (m : S26) : Decidable (r2 m) := by unfold r2; infer_instance
theorem C_take26 {w : World} {A : Option Addr} {l : List S26} (n : Nat) (h : Kd.C k26 w A l.length l) : Kd.C k26 w A (l.take n).length (l.take n) := by
  by_cases hn : n ≤ l.length
  · exact Kd.C_take h hn
  · rw [List.take_of_length_le (by omega)]; exact h
end Go.Proofs.Ythmenclkgngkkaa.M
