-- Machine-made walks, written for this claim by a program of this session (plug.py).
import Derived.Test.YtdohoajphknciaaProg
import Derived.Below
import Derived.Deep.Draws
import Derived.Deep.AppendLies
import Derived.Maps.AppendAt
import Derived.OwnWalk
import Derived.Laws.BytesArg
import Derived.Laws.MakeOwn
import Derived.Laws.OwnMore
import Derived.Deep.OwnRows
import Derived.Tactics
import Derived.Lib.ConvBytes
import Derived.Laws.Slices
import Derived.WalkKit
import Derived.KernelRfl
import Derived.RowKit3
import Derived.Deep.LoopGhost
import Derived.Deep.QuietTactic
import Derived.BigQuiet
import Derived.WideLaws
import Derived.Deep.DeepCutAuto
import Derived.Deep.CutBlock
import Derived.Deep.RegionHeld3
import Derived.Laws.Rows
import Derived.Lib.AppendStr
import Derived.ArgAppend
import Derived.Laws.IdiomCopy
import Derived.OrdersHeld
import Derived.Laws.BitsLemmas
import Derived.RowKit
import Derived.Test.YtdohoajphknciaaPermWalk
import Derived.Test.YtdohoajphknciaaWWords
import Derived.Test.YtdohoajphknciaaWLast
import Derived.Test.YtdohoajphknciaaWTab
import Derived.Test.YtdohoajphknciaaWFour
import Derived.Test.YtdohoajphknciaaWQPut
import Derived.Test.YtdohoajphknciaaWApart
import Derived.Test.YtdohoajphknciaaWArr
import Derived.Test.YtdohoajphknciaaWZeros
import Derived.Test.YtdohoajphknciaaWFoot
import Derived.Test.YtdohoajphknciaaWKept
import Derived.Test.YtdohoajphknciaaWShare
import Derived.Test.YtdohoajphknciaaWN
import Derived.Test.YtdohoajphknciaaWFootNe
import Derived.Test.YtdohoajphknciaaWAt
import Derived.Test.YtdohoajphknciaaWEqStruct
import Derived.Test.YtdohoajphknciaaWRepsOne
import Derived.Test.YtdohoajphknciaaWInv
import Derived.Test.YtdohoajphknciaaWInvWords
import Derived.Test.YtdohoajphknciaaWGuard
import Derived.Test.YtdohoajphknciaaWNEv
import Derived.Test.YtdohoajphknciaaWMore
namespace Go.Proofs.Ytdohoajphknciaa.PT
open Go.RowKit Go.Proofs.Ytdohoajphknciaa.Perm Go.Proofs.YtdohoajphknciaaW.PrintWords Go.Proofs.YtdohoajphknciaaW.PrintLast Go.Proofs.YtdohoajphknciaaW.PrintMore
attribute [local go_sem] max2_int min2_int max_two min_two max_three min_three max_four min_four   -- for this text's walks alone
set_option linter.unusedVariables false
set_option linter.unusedSimpArgs false



def errW : Option Int → Value
 | none => .nilIface
 | some c => .iface 0 (.int .i64 c)
theorem errW_none : errW none = .nilIface := rfl
theorem errW_some (c : Int) : errW (some c) = .iface 0 (.int .i64 c) := rfl

theorem info3 : (Try.prog.info? 3).map (fun i => (i.zero, i.size, i.bytes)) = some (some (.int .i64 0), 1, 8) := by kernel_rfl
theorem info34 : (Try.prog.info? 34).map (fun i => (i.zero, i.size, i.bytes)) = some (some (.int .i64 0), 1, 8) := by kernel_rfl
-- the values' own types

end Go.Proofs.Ytdohoajphknciaa.PT
