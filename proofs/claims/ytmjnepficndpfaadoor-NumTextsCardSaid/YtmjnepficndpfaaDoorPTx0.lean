-- Machine-made walks, written for this claim by a program of this session (plug.py).
import Derived.Test.YtmjnepficndpfaaDoorProg
import Derived.Below
import Derived.Deep.Draws
import Derived.Deep.AppendLies
import Derived.Maps.AppendAt
import Derived.OwnWalk
import Derived.Laws.BytesArg
import Derived.Laws.MakeOwn
import Derived.Laws.OwnMore
import Derived.Deep.OwnRows
import Derived.Tactics
import Derived.Lib.ConvBytes
import Derived.Laws.Slices
import Derived.WalkKit
import Derived.KernelRfl
import Derived.RowKit3
import Derived.Deep.LoopGhost
import Derived.Deep.QuietTactic
import Derived.BigQuiet
import Derived.WideLaws
import Derived.Deep.DeepCutAuto
import Derived.Deep.CutBlock
import Derived.Deep.RegionHeld3
import Derived.Laws.Rows
import Derived.Lib.AppendStr
import Derived.ArgAppend
import Derived.Laws.IdiomCopy
import Derived.OrdersHeld
import Derived.Laws.BitsLemmas
import Derived.RowKit
import Derived.Test.YtmjnepficndpfaaDoorDig
import Derived.Test.YtmjnepficndpfaaDoorWWords
import Derived.Test.YtmjnepficndpfaaDoorWLast
import Derived.Test.YtmjnepficndpfaaDoorWTab
import Derived.Test.YtmjnepficndpfaaDoorWFour
import Derived.Test.YtmjnepficndpfaaDoorWQPut
import Derived.Test.YtmjnepficndpfaaDoorWApart
import Derived.Test.YtmjnepficndpfaaDoorWArr
import Derived.Test.YtmjnepficndpfaaDoorWZeros
import Derived.Test.YtmjnepficndpfaaDoorWFoot
import Derived.Test.YtmjnepficndpfaaDoorWKept
import Derived.Test.YtmjnepficndpfaaDoorWShare
import Derived.Test.YtmjnepficndpfaaDoorWN
import Derived.Test.YtmjnepficndpfaaDoorWFootNe
import Derived.Test.YtmjnepficndpfaaDoorWAt
import Derived.Test.YtmjnepficndpfaaDoorWEqStruct
import Derived.Test.YtmjnepficndpfaaDoorWRepsOne
import Derived.Test.YtmjnepficndpfaaDoorWInv
import Derived.Test.YtmjnepficndpfaaDoorWInvWords
import Derived.Test.YtmjnepficndpfaaDoorWGuard
import Derived.Test.YtmjnepficndpfaaDoorWNEv
import Derived.Test.YtmjnepficndpfaaDoorWMore
namespace Go.Proofs.YtmjnepficndpfaaDoor.PT
open Go.RowKit Go.Proofs.YtmjnepficndpfaaDoor.Dig Go.Proofs.YtmjnepficndpfaaDoorW.PrintWords Go.Proofs.YtmjnepficndpfaaDoorW.PrintLast Go.Proofs.YtmjnepficndpfaaDoorW.PrintMore
attribute [local go_sem] max2_int min2_int max_two min_two max_three min_three max_four min_four   -- for this text's walks alone
set_option linter.unusedVariables false
set_option linter.unusedSimpArgs false



def errW : Option Int → Value
 | none => .nilIface
 | some c => .iface 0 (.int .i64 c)
theorem errW_none : errW none = .nilIface := rfl
theorem errW_some (c : Int) : errW (some c) = .iface 0 (.int .i64 c) := rfl

theorem info22 : (Tryd.prog.info? 22).map (fun i => (i.zero, i.size, i.bytes)) = some (some (.int .i64 0), 1, 8) := by kernel_rfl
-- the values' own types

end Go.Proofs.YtmjnepficndpfaaDoor.PT
