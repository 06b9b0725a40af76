-- Machine-made walks, written for this claim by a program of this session (plug.py).
import Derived.Test.YtldjbgonlbmeaaaProg
import Derived.Below
import Derived.Deep.Draws
import Derived.Deep.AppendLies
import Derived.Maps.AppendAt
import Derived.OwnWalk
import Derived.Laws.BytesArg
import Derived.Laws.MakeOwn
import Derived.Laws.OwnMore
import Derived.Deep.OwnRows
import Derived.Tactics
import Derived.Lib.ConvBytes
import Derived.Laws.Slices
import Derived.WalkKit
import Derived.KernelRfl
import Derived.RowKit3
import Derived.Deep.LoopGhost
import Derived.Deep.QuietTactic
import Derived.BigQuiet
import Derived.WideLaws
import Derived.Deep.DeepCutAuto
import Derived.Deep.CutBlock
import Derived.Deep.RegionHeld3
import Derived.Laws.Rows
import Derived.Lib.AppendStr
import Derived.ArgAppend
import Derived.Laws.IdiomCopy
import Derived.OrdersHeld
import Derived.Laws.BitsLemmas
import Derived.RowKit
import Derived.Test.YtldjbgonlbmeaaaPrt
import Derived.Test.YtldjbgonlbmeaaaCnt
import Derived.Test.YtldjbgonlbmeaaaWWords
import Derived.Test.YtldjbgonlbmeaaaWLast
import Derived.Test.YtldjbgonlbmeaaaWTab
import Derived.Test.YtldjbgonlbmeaaaWFour
import Derived.Test.YtldjbgonlbmeaaaWQPut
import Derived.Test.YtldjbgonlbmeaaaWApart
import Derived.Test.YtldjbgonlbmeaaaWArr
import Derived.Test.YtldjbgonlbmeaaaWZeros
import Derived.Test.YtldjbgonlbmeaaaWFoot
import Derived.Test.YtldjbgonlbmeaaaWKept
import Derived.Test.YtldjbgonlbmeaaaWShare
import Derived.Test.YtldjbgonlbmeaaaWN
import Derived.Test.YtldjbgonlbmeaaaWFootNe
import Derived.Test.YtldjbgonlbmeaaaWAt
import Derived.Test.YtldjbgonlbmeaaaWEqStruct
import Derived.Test.YtldjbgonlbmeaaaWRepsOne
import Derived.Test.YtldjbgonlbmeaaaWInv
import Derived.Test.YtldjbgonlbmeaaaWInvWords
import Derived.Test.YtldjbgonlbmeaaaWGuard
import Derived.Test.YtldjbgonlbmeaaaWNEv
import Derived.Test.YtldjbgonlbmeaaaWMore
namespace Go.Proofs.Ytldjbgonlbmeaaa.PC
open Go.RowKit Go.Proofs.Ytldjbgonlbmeaaa.PA Go.Proofs.Ytldjbgonlbmeaaa.T Go.Proofs.Ytldjbgonlbmeaaa.Nm Go.Proofs.Ytldjbgonlbmeaaa.Dig Go.Proofs.Ytldjbgonlbmeaaa.PB Go.Proofs.YtldjbgonlbmeaaaW.PrintWords Go.Proofs.YtldjbgonlbmeaaaW.PrintLast Go.Proofs.YtldjbgonlbmeaaaW.PrintMore
attribute [local go_sem] max2_int min2_int max_two min_two max_three min_three max_four min_four   -- for this text's walks alone
set_option linter.unusedVariables false
set_option linter.unusedSimpArgs false

theorem k33_mkF (W : World) (ok : Nat → Prop) (x : S33) {A3 : Option Addr} {c3 : Nat} (l3 : x.f3.length ≤ c3) (g3 : Kd.F (Kd.int .i64) W ok A3 x.f3.length x.f3) : Kd.FK k33 W ok x [.int .u8 x.f0, .string x.f1, .int .i64 x.f2, .slice A3 x.f3.length c3, .int .i64 x.f4] := fun W2 hW => k33_mk W2 x l3 (g3 W2 hW)
end Go.Proofs.Ytldjbgonlbmeaaa.PC
