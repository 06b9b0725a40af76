-- Machine-made walks, written for this claim by a program of this session (plug.py).
import Derived.Test.YtldjbgonlbmeaaaDoorProg
import Derived.Below
import Derived.Deep.Draws
import Derived.Deep.AppendLies
import Derived.Maps.AppendAt
import Derived.OwnWalk
import Derived.Laws.BytesArg
import Derived.Laws.MakeOwn
import Derived.Laws.OwnMore
import Derived.Deep.OwnRows
import Derived.Tactics
import Derived.Lib.ConvBytes
import Derived.Laws.Slices
import Derived.WalkKit
import Derived.KernelRfl
import Derived.RowKit3
import Derived.Deep.LoopGhost
import Derived.Deep.QuietTactic
import Derived.BigQuiet
import Derived.WideLaws
import Derived.Deep.DeepCutAuto
import Derived.Deep.CutBlock
import Derived.Deep.RegionHeld3
import Derived.Laws.Rows
import Derived.Lib.AppendStr
import Derived.ArgAppend
import Derived.Laws.IdiomCopy
import Derived.OrdersHeld
import Derived.Laws.BitsLemmas
import Derived.RowKit
import Derived.Test.YtldjbgonlbmeaaaDoorPrt
import Derived.Test.YtldjbgonlbmeaaaDoorCnt
import Derived.Test.YtldjbgonlbmeaaaDoorPra
import Derived.Test.YtldjbgonlbmeaaaDoorWWords
import Derived.Test.YtldjbgonlbmeaaaDoorWz
namespace Go.Proofs.YtldjbgonlbmeaaaDoor.PC
open Go.RowKit Go.Proofs.YtldjbgonlbmeaaaDoor.PA Go.Proofs.YtldjbgonlbmeaaaDoor.T Go.Proofs.YtldjbgonlbmeaaaDoor.Nm Go.Proofs.YtldjbgonlbmeaaaDoor.Dig Go.Proofs.YtldjbgonlbmeaaaDoor.PB Go.Proofs.YtldjbgonlbmeaaaDoor.PR Go.Proofs.YtldjbgonlbmeaaaDoorW.PrintWords Go.Proofs.YtldjbgonlbmeaaaDoorW.PrintLast Go.Proofs.YtldjbgonlbmeaaaDoorW.PrintMore
attribute [local go_sem] max2_int min2_int max_two min_two max_three min_three max_four min_four   -- for this text's walks alone
set_option linter.unusedVariables false
set_option linter.unusedSimpArgs false

theorem info61 : (Tryd.prog.info? 61).map (fun i => (i.zero, i.size, i.bytes)) = some (some (.agg #[(.int .u8 0), (.string ⟨#[]⟩), (.int .i64 0), (.slice none 0 0), (.int .i64 0)]), 5, 64) := by kernel_rfl
theorem k61_heap : Kd.Heap k61 := Kd.heap_iso _ (Kd.heap_pair (Kd.heap_int .u8) (Kd.heap_pair Kd.heap_string (Kd.heap_pair (Kd.heap_int .i64) (Kd.heap_pair (Kd.heap_slice 3 (Kd.heap_int .i64)) (Kd.heap_int .i64)))))
theorem k61_mkF (W : World) (ok : Nat → Prop) (x : S61) {A3 : Option Addr} {c3 : Nat} (l3 : x.f3.length ≤ c3) (g3 : Kd.F (Kd.int .i64) W ok A3 x.f3.length x.f3) : Kd.FK k61 W ok x [.int .u8 x.f0, .string x.f1, .int .i64 x.f2, .slice A3 x.f3.length c3, .int .i64 x.f4] := fun W2 hW => k61_mk W2 x l3 (g3 W2 hW)
end Go.Proofs.YtldjbgonlbmeaaaDoor.PC
