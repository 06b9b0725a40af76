-- Machine-made walks, written for this claim by a program of this session (plug.py).
import Derived.Test.YtkpaefeaplgnmaaProg
import Derived.Below
import Derived.Deep.Draws
import Derived.Deep.AppendLies
import Derived.Maps.AppendAt
import Derived.OwnWalk
import Derived.Laws.BytesArg
import Derived.Laws.MakeOwn
import Derived.Laws.OwnMore
import Derived.Deep.OwnRows
import Derived.Tactics
import Derived.Lib.ConvBytes
import Derived.Laws.Slices
import Derived.WalkKit
import Derived.KernelRfl
import Derived.RowKit3
import Derived.Deep.LoopGhost
import Derived.Deep.QuietTactic
import Derived.BigQuiet
import Derived.WideLaws
import Derived.Deep.DeepCutAuto
import Derived.Deep.CutBlock
import Derived.Deep.RegionHeld3
import Derived.Laws.Rows
import Derived.Lib.AppendStr
import Derived.ArgAppend
import Derived.Laws.IdiomCopy
import Derived.OrdersHeld
import Derived.Laws.BitsLemmas
import Derived.RowKit
import Derived.Test.YtkpaefeaplgnmaaGraphX
import Derived.Test.YtkpaefeaplgnmaaWWords
import Derived.Test.YtkpaefeaplgnmaaWLast
import Derived.Test.YtkpaefeaplgnmaaWTab
import Derived.Test.YtkpaefeaplgnmaaWFour
import Derived.Test.YtkpaefeaplgnmaaWQPut
import Derived.Test.YtkpaefeaplgnmaaWApart
import Derived.Test.YtkpaefeaplgnmaaWArr
import Derived.Test.YtkpaefeaplgnmaaWZeros
import Derived.Test.YtkpaefeaplgnmaaWFoot
import Derived.Test.YtkpaefeaplgnmaaWKept
import Derived.Test.YtkpaefeaplgnmaaWShare
import Derived.Test.YtkpaefeaplgnmaaWN
import Derived.Test.YtkpaefeaplgnmaaWFootNe
import Derived.Test.YtkpaefeaplgnmaaWAt
import Derived.Test.YtkpaefeaplgnmaaWEqStruct
import Derived.Test.YtkpaefeaplgnmaaWRepsOne
import Derived.Test.YtkpaefeaplgnmaaWInv
import Derived.Test.YtkpaefeaplgnmaaWInvWords
import Derived.Test.YtkpaefeaplgnmaaWGuard
import Derived.Test.YtkpaefeaplgnmaaWNEv
import Derived.Test.YtkpaefeaplgnmaaWMore
namespace Go.Proofs.Ytkpaefeaplgnmaa.PB
open Go.RowKit Go.Proofs.Ytkpaefeaplgnmaa.PA Go.Proofs.Ytkpaefeaplgnmaa.Pl Go.Proofs.Ytkpaefeaplgnmaa.Mc Go.Proofs.YtkpaefeaplgnmaaW.PrintWords Go.Proofs.YtkpaefeaplgnmaaW.PrintLast Go.Proofs.YtkpaefeaplgnmaaW.PrintMore
attribute [local go_sem] max2_int min2_int max_two min_two max_three min_three max_four min_four   -- for this text's walks alone
set_option linter.unusedVariables false
set_option linter.unusedSimpArgs false



-- the values' own types
/-! #### struct type 53 -/
theorem k53_heap : Kd.Heap k53 := Kd.heap_iso _ (Kd.heap_pair (Kd.heap_int .i64) (Kd.heap_int .i64))
end Go.Proofs.Ytkpaefeaplgnmaa.PB
