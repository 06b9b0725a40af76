import Derived.Test.YtldjbgonlbmeaaaPDx3
import Derived.Test.YtldjbgonlbmeaaaBck
namespace Go.Proofs.Ytldjbgonlbmeaaa.Pure
open Go.RowKit Go.Proofs.Ytldjbgonlbmeaaa.PD Go.Proofs.YtldjbgonlbmeaaaW.PrintWords Go.Proofs.YtldjbgonlbmeaaaW.PrintLast

theorem ShowBack : reticulelaw08_ShowBack.Pure := Go.Proofs.Ytldjbgonlbmeaaa.F.back_w

end Go.Proofs.Ytldjbgonlbmeaaa.Pure
