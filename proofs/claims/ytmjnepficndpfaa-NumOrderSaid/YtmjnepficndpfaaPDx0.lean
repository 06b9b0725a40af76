-- Machine-made walks, written for this claim by a program of this session (plug.py).
import Derived.Test.YtmjnepficndpfaaProg
import Derived.Below
import Derived.Deep.Draws
import Derived.Deep.AppendLies
import Derived.Maps.AppendAt
import Derived.OwnWalk
import Derived.Laws.BytesArg
import Derived.Laws.MakeOwn
import Derived.Laws.OwnMore
import Derived.Deep.OwnRows
import Derived.Tactics
import Derived.Lib.ConvBytes
import Derived.Laws.Slices
import Derived.WalkKit
import Derived.KernelRfl
import Derived.RowKit3
import Derived.Deep.LoopGhost
import Derived.Deep.QuietTactic
import Derived.BigQuiet
import Derived.WideLaws
import Derived.Deep.DeepCutAuto
import Derived.Deep.CutBlock
import Derived.Deep.RegionHeld3
import Derived.Laws.Rows
import Derived.Lib.AppendStr
import Derived.ArgAppend
import Derived.Laws.IdiomCopy
import Derived.OrdersHeld
import Derived.Laws.BitsLemmas
import Derived.RowKit
import Derived.Test.YtmjnepficndpfaaDig
import Derived.Test.YtmjnepficndpfaaWWords
import Derived.Test.YtmjnepficndpfaaWLast
import Derived.Test.YtmjnepficndpfaaWTab
import Derived.Test.YtmjnepficndpfaaWFour
import Derived.Test.YtmjnepficndpfaaWQPut
import Derived.Test.YtmjnepficndpfaaWApart
import Derived.Test.YtmjnepficndpfaaWArr
import Derived.Test.YtmjnepficndpfaaWZeros
import Derived.Test.YtmjnepficndpfaaWFoot
import Derived.Test.YtmjnepficndpfaaWKept
import Derived.Test.YtmjnepficndpfaaWShare
import Derived.Test.YtmjnepficndpfaaWN
import Derived.Test.YtmjnepficndpfaaWFootNe
import Derived.Test.YtmjnepficndpfaaWAt
import Derived.Test.YtmjnepficndpfaaWEqStruct
import Derived.Test.YtmjnepficndpfaaWRepsOne
import Derived.Test.YtmjnepficndpfaaWInv
import Derived.Test.YtmjnepficndpfaaWInvWords
import Derived.Test.YtmjnepficndpfaaWGuard
import Derived.Test.YtmjnepficndpfaaWNEv
import Derived.Test.YtmjnepficndpfaaWMore
namespace Go.Proofs.Ytmjnepficndpfaa.PD
open Go.RowKit Go.Proofs.Ytmjnepficndpfaa.Dig Go.Proofs.YtmjnepficndpfaaW.PrintWords Go.Proofs.YtmjnepficndpfaaW.PrintLast Go.Proofs.YtmjnepficndpfaaW.PrintMore
attribute [local go_sem] max2_int min2_int max_two min_two max_three min_three max_four min_four   -- for this text's walks alone
set_option linter.unusedVariables false
set_option linter.unusedSimpArgs false



def errW : Option Int → Value
 | none => .nilIface
 | some c => .iface 0 (.int .i64 c)
theorem errW_none : errW none = .nilIface := rfl
theorem errW_some (c : Int) : errW (some c) = .iface 0 (.int .i64 c) := rfl

theorem info22 : (Try.prog.info? 22).map (fun i => (i.zero, i.size, i.bytes)) = some (some (.int .i64 0), 1, 8) := by kernel_rfl
-- the values' own types

end Go.Proofs.Ytmjnepficndpfaa.PD
