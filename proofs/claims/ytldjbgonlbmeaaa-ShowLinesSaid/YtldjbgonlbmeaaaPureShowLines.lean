import Derived.Test.YtldjbgonlbmeaaaPCx2
import Derived.Test.YtldjbgonlbmeaaaFbs
namespace Go.Proofs.Ytldjbgonlbmeaaa.Pure
open Go.RowKit Go.Proofs.Ytldjbgonlbmeaaa.PC Go.Proofs.YtldjbgonlbmeaaaW.PrintWords Go.Proofs.YtldjbgonlbmeaaaW.PrintLast

theorem ShowLines : reticulelaw08_ShowLines.Pure := Go.Proofs.Ytldjbgonlbmeaaa.F.lines_w

end Go.Proofs.Ytldjbgonlbmeaaa.Pure
