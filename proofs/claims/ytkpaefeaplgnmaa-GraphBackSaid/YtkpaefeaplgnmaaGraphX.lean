/- Contracts of my own walks, in the print's form: graph.Check and live. -/
import Derived.Test.YtkpaefeaplgnmaaGraphN
import Derived.Test.YtkpaefeaplgnmaaPAx4
import Derived.Test.YtkpaefeaplgnmaaPAx5
import Derived.Test.YtkpaefeaplgnmaaPAx6
import Derived.Test.YtkpaefeaplgnmaaMc
set_option linter.unusedVariables false
namespace Go.Proofs.Ytkpaefeaplgnmaa.Pl
open Go.RowKit Go.Proofs.Ytkpaefeaplgnmaa.G Go.Proofs.Ytkpaefeaplgnmaa.PA Go.Proofs.YtkpaefeaplgnmaaW.PrintWords Go.Proofs.YtkpaefeaplgnmaaW.PrintLast Go.Proofs.YtkpaefeaplgnmaaW.PrintMore

def graph_Check.f (a0 : Int) (l1 : List S53) : Option (Int × Int) := if l1.length ≤ 100 then some (chk a0 l1) else none
theorem graph_Check.calls (a0 : Int) (A1 : Option Addr) (c1 : Nat) (l1 : List S53) (r1 r2 : Int) (w : World) (hr1 : Kd.C k53 w A1 l1.length l1) (_ : l1.length ≤ c1) (h : graph_Check.f a0 l1 = some (r1, r2)) :
    Calls Try.prog 18 #[.int .i64 a0, .slice A1 l1.length c1] w fun e w' => e = .returned (.tuple #[.int .i64 r1, .int .i64 r2]) ∧ Below w.heap.size w w' := by
  unfold graph_Check.f at h
  split at h
  · have e : chk a0 l1 = (r1, r2) := Option.some.inj h
    have := check_ok a0 A1 c1 l1 w hr1 (by omega)
    rw [e] at this
    exact this
  · cases h
def reticulelaw03_live.f : Option Bool := some true
theorem reticulelaw03_live.calls (r : Bool) (w : World) (h : reticulelaw03_live.f = some r) : Calls Try.prog 12 #[] w fun e w' => e = .returned (.bool r) ∧ Below w.heap.size w w' := by
  obtain rfl : true = r := Option.some.inj h
  exact live_ok w
end Go.Proofs.Ytkpaefeaplgnmaa.Pl
