-- Machine-made walks, written for this claim by a program of this session (plug.py).
import Derived.Test.YtldjbgonlbmeaaaDoorPCx0
import Derived.Test.YtldjbgonlbmeaaaDoorPCx1
import Derived.Test.YtldjbgonlbmeaaaDoorPCx2
import Derived.Test.YtldjbgonlbmeaaaDoorLv
import Derived.Test.YtldjbgonlbmeaaaDoorPCx3
namespace Go.Proofs.YtldjbgonlbmeaaaDoor.PC
open Go.RowKit Go.Proofs.YtldjbgonlbmeaaaDoor.PA Go.Proofs.YtldjbgonlbmeaaaDoor.T Go.Proofs.YtldjbgonlbmeaaaDoor.Nm Go.Proofs.YtldjbgonlbmeaaaDoor.Dig Go.Proofs.YtldjbgonlbmeaaaDoor.PB Go.Proofs.YtldjbgonlbmeaaaDoor.PR Go.Proofs.YtldjbgonlbmeaaaDoorW.PrintWords Go.Proofs.YtldjbgonlbmeaaaDoorW.PrintLast Go.Proofs.YtldjbgonlbmeaaaDoorW.PrintMore
attribute [local go_sem] max2_int min2_int max_two min_two max_three min_three max_four min_four   -- for this text's walks alone
set_option linter.unusedVariables false
set_option linter.unusedSimpArgs false

end Go.Proofs.YtldjbgonlbmeaaaDoor.PC
