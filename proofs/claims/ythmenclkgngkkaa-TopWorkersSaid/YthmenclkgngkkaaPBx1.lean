-- Machine-made walks, written for this claim by a program of this session (plug.py).
import Derived.Test.YthmenclkgngkkaaPBx0
namespace Go.Proofs.Ythmenclkgngkkaa.PB
open Go.RowKit Go.Proofs.Ythmenclkgngkkaa.PA Go.Proofs.Ythmenclkgngkkaa.M Go.Proofs.YthmenclkgngkkaaW.PrintWords Go.Proofs.YthmenclkgngkkaaW.PrintLast Go.Proofs.YthmenclkgngkkaaW.PrintMore
attribute [local go_sem] max2_int min2_int max_two min_two max_three min_three max_four min_four   -- for this text's walks alone
set_option linter.unusedVariables false
set_option linter.unusedSimpArgs false

end Go.Proofs.Ythmenclkgngkkaa.PB
