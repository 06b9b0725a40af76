-- Machine-made walks, written for this claim by a program of this session (plug.py).
import Derived.Test.YtgdpdigpbbjhpaaProg
import Derived.Below
import Derived.Deep.Draws
import Derived.Deep.AppendLies
import Derived.Maps.AppendAt
import Derived.OwnWalk
import Derived.Laws.BytesArg
import Derived.Laws.MakeOwn
import Derived.Laws.OwnMore
import Derived.Deep.OwnRows
import Derived.Tactics
import Derived.Lib.ConvBytes
import Derived.Laws.Slices
import Derived.WalkKit
import Derived.KernelRfl
import Derived.RowKit3
import Derived.Deep.LoopGhost
import Derived.Deep.QuietTactic
import Derived.BigQuiet
import Derived.WideLaws
import Derived.Deep.DeepCutAuto
import Derived.Deep.CutBlock
import Derived.Deep.RegionHeld3
import Derived.Laws.Rows
import Derived.Lib.AppendStr
import Derived.ArgAppend
import Derived.Laws.IdiomCopy
import Derived.OrdersHeld
import Derived.Laws.BitsLemmas
import Derived.RowKit
import Derived.Test.YtgdpdigpbbjhpaaWr
import Derived.Test.YtgdpdigpbbjhpaaCl
import Derived.Test.YtgdpdigpbbjhpaaWWords
import Derived.Test.YtgdpdigpbbjhpaaWLast
import Derived.Test.YtgdpdigpbbjhpaaWTab
import Derived.Test.YtgdpdigpbbjhpaaWFour
import Derived.Test.YtgdpdigpbbjhpaaWQPut
import Derived.Test.YtgdpdigpbbjhpaaWApart
import Derived.Test.YtgdpdigpbbjhpaaWArr
import Derived.Test.YtgdpdigpbbjhpaaWZeros
import Derived.Test.YtgdpdigpbbjhpaaWFoot
import Derived.Test.YtgdpdigpbbjhpaaWKept
import Derived.Test.YtgdpdigpbbjhpaaWShare
import Derived.Test.YtgdpdigpbbjhpaaWN
import Derived.Test.YtgdpdigpbbjhpaaWFootNe
import Derived.Test.YtgdpdigpbbjhpaaWAt
import Derived.Test.YtgdpdigpbbjhpaaWEqStruct
import Derived.Test.YtgdpdigpbbjhpaaWRepsOne
import Derived.Test.YtgdpdigpbbjhpaaWInv
import Derived.Test.YtgdpdigpbbjhpaaWInvWords
import Derived.Test.YtgdpdigpbbjhpaaWGuard
import Derived.Test.YtgdpdigpbbjhpaaWNEv
import Derived.Test.YtgdpdigpbbjhpaaWMore
namespace Go.Proofs.Ytgdpdigpbbjhpaa.PB
open Go.RowKit Go.Proofs.Ytgdpdigpbbjhpaa.PA Go.Proofs.Ytgdpdigpbbjhpaa.C Go.Proofs.YtgdpdigpbbjhpaaW.PrintWords Go.Proofs.YtgdpdigpbbjhpaaW.PrintLast Go.Proofs.YtgdpdigpbbjhpaaW.PrintMore
attribute [local go_sem] max2_int min2_int max_two min_two max_three min_three max_four min_four   -- for this text's walks alone
set_option linter.unusedVariables false
set_option linter.unusedSimpArgs false



-- the values' own types
/-! #### struct type 39 -/
theorem k39_heap : Kd.Heap k39 := Kd.heap_iso _ (Kd.heap_pair (Kd.heap_int .u8) (Kd.heap_pair Kd.heap_string (Kd.heap_pair (Kd.heap_int .u8) (Kd.heap_pair Kd.heap_bool (Kd.heap_pair (Kd.heap_int .i64) (Kd.heap_int .i64))))))
end Go.Proofs.Ytgdpdigpbbjhpaa.PB
