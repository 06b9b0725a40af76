-- Machine-made walks, written for this claim by a program of this session (plug.py).
import Derived.Test.YthmenclkgngkkaaProg
import Derived.Below
import Derived.Deep.Draws
import Derived.Deep.AppendLies
import Derived.Maps.AppendAt
import Derived.OwnWalk
import Derived.Laws.BytesArg
import Derived.Laws.MakeOwn
import Derived.Laws.OwnMore
import Derived.Deep.OwnRows
import Derived.Tactics
import Derived.Lib.ConvBytes
import Derived.Laws.Slices
import Derived.WalkKit
import Derived.KernelRfl
import Derived.RowKit3
import Derived.Deep.LoopGhost
import Derived.Deep.QuietTactic
import Derived.BigQuiet
import Derived.WideLaws
import Derived.Deep.DeepCutAuto
import Derived.Deep.CutBlock
import Derived.Deep.RegionHeld3
import Derived.Laws.Rows
import Derived.Lib.AppendStr
import Derived.ArgAppend
import Derived.Laws.IdiomCopy
import Derived.OrdersHeld
import Derived.Laws.BitsLemmas
import Derived.RowKit
import Derived.Test.YthmenclkgngkkaaTd
import Derived.Test.YthmenclkgngkkaaRs
import Derived.Test.YthmenclkgngkkaaPBx1
import Derived.Test.YthmenclkgngkkaaWWords
import Derived.Test.YthmenclkgngkkaaWLast
import Derived.Test.YthmenclkgngkkaaWTab
import Derived.Test.YthmenclkgngkkaaWFour
import Derived.Test.YthmenclkgngkkaaWQPut
import Derived.Test.YthmenclkgngkkaaWApart
import Derived.Test.YthmenclkgngkkaaWArr
import Derived.Test.YthmenclkgngkkaaWZeros
import Derived.Test.YthmenclkgngkkaaWFoot
import Derived.Test.YthmenclkgngkkaaWKept
import Derived.Test.YthmenclkgngkkaaWShare
import Derived.Test.YthmenclkgngkkaaWN
import Derived.Test.YthmenclkgngkkaaWFootNe
import Derived.Test.YthmenclkgngkkaaWAt
import Derived.Test.YthmenclkgngkkaaWEqStruct
import Derived.Test.YthmenclkgngkkaaWRepsOne
import Derived.Test.YthmenclkgngkkaaWInv
import Derived.Test.YthmenclkgngkkaaWInvWords
import Derived.Test.YthmenclkgngkkaaWGuard
import Derived.Test.YthmenclkgngkkaaWNEv
import Derived.Test.YthmenclkgngkkaaWMore
namespace Go.Proofs.Ythmenclkgngkkaa.PD
open Go.RowKit Go.Proofs.Ythmenclkgngkkaa.PA Go.Proofs.Ythmenclkgngkkaa.M Go.Proofs.Ythmenclkgngkkaa.PB Go.Proofs.YthmenclkgngkkaaW.PrintWords Go.Proofs.YthmenclkgngkkaaW.PrintLast Go.Proofs.YthmenclkgngkkaaW.PrintMore
attribute [local go_sem] max2_int min2_int max_two min_two max_three min_three max_four min_four   -- for this text's walks alone
set_option linter.unusedVariables false
set_option linter.unusedSimpArgs false

-- the values' own types
end Go.Proofs.Ythmenclkgngkkaa.PD
