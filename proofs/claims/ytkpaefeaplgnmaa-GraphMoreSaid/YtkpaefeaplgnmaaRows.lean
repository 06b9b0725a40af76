/-
  No cell of these rows narrows 'for every input' (looked for: loops, veiled, ifaces, maps, wideKeys, modest, calm, conditions, laid).
  DERIVED. THE GIVEN ROWS OF THIS SEAT. 7 by the template 'for every input the law returns true; each argument reads behind the call as it read before'; 0 by the template 'total and deterministic' (their statements: YtkpaefeaplgnmaaTotals.lean).
  GIVEN WITH THE SEED: the statements are not yours to turn. If you find one false, say at which input.
  Laid BY PROGRAM, IN A SANDBOX (cutbox-rows.mjs): the forced cells as the released guide's own fill.sh prints them over the translation d28c90d914243e7e… (all of the seat's roots in one cut). By AI agents, Wed Nov 11 2026. No macro, syntax, notation, axiom, sorry.
-/
import Derived.Test.YtkpaefeaplgnmaaChecked
import GoSem.Claim
import GoSem.ClaimJoined
import GoSem.ClaimMapViews
import Derived.JoinedTies
import Derived.KernelRfl
namespace Go.Proofs.Ytkpaefeaplgnmaa
/- THE CELL 'sum', in the pinned program and in every row, IS THE sha256 OF THE DUMP (.gsa) THAT YtkpaefeaplgnmaaProg.lean LOADS. Nothing in Lean hashes anything: it is a label: what it is worth is what the hold of that sum in a sandbox is worth. -/
noncomputable def Try.pinned : Pinned := { name := "ytkpaefeaplgnmaa", sum := "d28c90d914243e7efa37694767115fed835c20bbfb85e4ff2e3417ad8e22f4ed", checked := Try.checked }
namespace Rows
def none {H : Type} : Left H := { results := [], args := [] }

/-- 'reticulelaw03.GraphOnce': WHATEVER THE INPUT: true; the input reads as it did. -/
def graphOnceSpec : ChangeSpec := { name := "graphOnce", fn := fun _ => fun
  | [d1, d2] => { results := [.lit (.bool true)], args := [d1, d2] }
  | _ => none }
def graphOnceRow : OpenClaim := { program := "ytkpaefeaplgnmaa", sum := "d28c90d914243e7efa37694767115fed835c20bbfb85e4ff2e3417ad8e22f4ed", func := "reticule/reticulelaw03.GraphOnce", spec := "graphOnce", unfollowed := true, recurses := true, plainKeys := false, apart := false }
def GraphOnceSaid : Prop := graphOnceRow.holds Try.pinned (OpenSpec.ofChange graphOnceSpec)

/-- ITS FALSE NEIGHBOUR: 'it returns false'. Refute it at one input. -/
def graphOnceWrong : ChangeSpec := { name := "graphOnce", fn := fun _ => fun
  | [d1, d2] => { results := [.lit (.bool false)], args := [d1, d2] }
  | _ => none }
def GraphOnceWrongFalsely : Prop := graphOnceRow.holds Try.pinned (OpenSpec.ofChange graphOnceWrong)

/-- 'reticulelaw03.GraphPlays': WHATEVER THE INPUT: true; the input reads as it did. -/
def graphPlaysSpec : ChangeSpec := { name := "graphPlays", fn := fun _ => fun
  | [d1, d2] => { results := [.lit (.bool true)], args := [d1, d2] }
  | _ => none }
def graphPlaysRow : OpenClaim := { program := "ytkpaefeaplgnmaa", sum := "d28c90d914243e7efa37694767115fed835c20bbfb85e4ff2e3417ad8e22f4ed", func := "reticule/reticulelaw03.GraphPlays", spec := "graphPlays", unfollowed := true, recurses := true, plainKeys := false, apart := false }
def GraphPlaysSaid : Prop := graphPlaysRow.holds Try.pinned (OpenSpec.ofChange graphPlaysSpec)

/-- ITS FALSE NEIGHBOUR: 'it returns false'. Refute it at one input. -/
def graphPlaysWrong : ChangeSpec := { name := "graphPlays", fn := fun _ => fun
  | [d1, d2] => { results := [.lit (.bool false)], args := [d1, d2] }
  | _ => none }
def GraphPlaysWrongFalsely : Prop := graphPlaysRow.holds Try.pinned (OpenSpec.ofChange graphPlaysWrong)

/-- 'reticulelaw03.GraphTurned': WHATEVER THE INPUT: true; the input reads as it did. -/
def graphTurnedSpec : ChangeSpec := { name := "graphTurned", fn := fun _ => fun
  | [d1, d2] => { results := [.lit (.bool true)], args := [d1, d2] }
  | _ => none }
def graphTurnedRow : OpenClaim := { program := "ytkpaefeaplgnmaa", sum := "d28c90d914243e7efa37694767115fed835c20bbfb85e4ff2e3417ad8e22f4ed", func := "reticule/reticulelaw03.GraphTurned", spec := "graphTurned", unfollowed := true, recurses := true, plainKeys := false, apart := false }
def GraphTurnedSaid : Prop := graphTurnedRow.holds Try.pinned (OpenSpec.ofChange graphTurnedSpec)

/-- ITS FALSE NEIGHBOUR: 'it returns false'. Refute it at one input. -/
def graphTurnedWrong : ChangeSpec := { name := "graphTurned", fn := fun _ => fun
  | [d1, d2] => { results := [.lit (.bool false)], args := [d1, d2] }
  | _ => none }
def GraphTurnedWrongFalsely : Prop := graphTurnedRow.holds Try.pinned (OpenSpec.ofChange graphTurnedWrong)

/-- 'reticulelaw03.GraphBytes': WHATEVER THE INPUT: true; the input reads as it did. -/
def graphBytesSpec : ChangeSpec := { name := "graphBytes", fn := fun _ => fun
  | [d1, d2, d3] => { results := [.lit (.bool true)], args := [d1, d2, d3] }
  | _ => none }
def graphBytesRow : OpenClaim := { program := "ytkpaefeaplgnmaa", sum := "d28c90d914243e7efa37694767115fed835c20bbfb85e4ff2e3417ad8e22f4ed", func := "reticule/reticulelaw03.GraphBytes", spec := "graphBytes", unfollowed := true, recurses := true, plainKeys := false, apart := false }
def GraphBytesSaid : Prop := graphBytesRow.holds Try.pinned (OpenSpec.ofChange graphBytesSpec)

/-- ITS FALSE NEIGHBOUR: 'it returns false'. Refute it at one input. -/
def graphBytesWrong : ChangeSpec := { name := "graphBytes", fn := fun _ => fun
  | [d1, d2, d3] => { results := [.lit (.bool false)], args := [d1, d2, d3] }
  | _ => none }
def GraphBytesWrongFalsely : Prop := graphBytesRow.holds Try.pinned (OpenSpec.ofChange graphBytesWrong)

/-- 'reticulelaw03.GraphBack': WHATEVER THE INPUT: true; the input reads as it did. -/
def graphBackSpec : ChangeSpec := { name := "graphBack", fn := fun _ => fun
  | [d1, d2, d3] => { results := [.lit (.bool true)], args := [d1, d2, d3] }
  | _ => none }
def graphBackRow : OpenClaim := { program := "ytkpaefeaplgnmaa", sum := "d28c90d914243e7efa37694767115fed835c20bbfb85e4ff2e3417ad8e22f4ed", func := "reticule/reticulelaw03.GraphBack", spec := "graphBack", unfollowed := true, recurses := true, plainKeys := false, apart := false }
def GraphBackSaid : Prop := graphBackRow.holds Try.pinned (OpenSpec.ofChange graphBackSpec)

/-- ITS FALSE NEIGHBOUR: 'it returns false'. Refute it at one input. -/
def graphBackWrong : ChangeSpec := { name := "graphBack", fn := fun _ => fun
  | [d1, d2, d3] => { results := [.lit (.bool false)], args := [d1, d2, d3] }
  | _ => none }
def GraphBackWrongFalsely : Prop := graphBackRow.holds Try.pinned (OpenSpec.ofChange graphBackWrong)

/-- 'reticulelaw03.GraphLevels': WHATEVER THE INPUT: true; the input reads as it did. -/
def graphLevelsSpec : ChangeSpec := { name := "graphLevels", fn := fun _ => fun
  | [d1, d2, d3] => { results := [.lit (.bool true)], args := [d1, d2, d3] }
  | _ => none }
def graphLevelsRow : OpenClaim := { program := "ytkpaefeaplgnmaa", sum := "d28c90d914243e7efa37694767115fed835c20bbfb85e4ff2e3417ad8e22f4ed", func := "reticule/reticulelaw03.GraphLevels", spec := "graphLevels", unfollowed := true, recurses := true, plainKeys := false, apart := false }
def GraphLevelsSaid : Prop := graphLevelsRow.holds Try.pinned (OpenSpec.ofChange graphLevelsSpec)

/-- ITS FALSE NEIGHBOUR: 'it returns false'. Refute it at one input. -/
def graphLevelsWrong : ChangeSpec := { name := "graphLevels", fn := fun _ => fun
  | [d1, d2, d3] => { results := [.lit (.bool false)], args := [d1, d2, d3] }
  | _ => none }
def GraphLevelsWrongFalsely : Prop := graphLevelsRow.holds Try.pinned (OpenSpec.ofChange graphLevelsWrong)

/-- 'reticulelaw03.GraphMore': WHATEVER THE INPUT: true; the input reads as it did. -/
def graphMoreSpec : ChangeSpec := { name := "graphMore", fn := fun _ => fun
  | [d1, d2] => { results := [.lit (.bool true)], args := [d1, d2] }
  | _ => none }
def graphMoreRow : OpenClaim := { program := "ytkpaefeaplgnmaa", sum := "d28c90d914243e7efa37694767115fed835c20bbfb85e4ff2e3417ad8e22f4ed", func := "reticule/reticulelaw03.GraphMore", spec := "graphMore", unfollowed := true, recurses := true, plainKeys := false, apart := false }
def GraphMoreSaid : Prop := graphMoreRow.holds Try.pinned (OpenSpec.ofChange graphMoreSpec)

/-- ITS FALSE NEIGHBOUR: 'it returns false'. Refute it at one input. -/
def graphMoreWrong : ChangeSpec := { name := "graphMore", fn := fun _ => fun
  | [d1, d2] => { results := [.lit (.bool false)], args := [d1, d2] }
  | _ => none }
def GraphMoreWrongFalsely : Prop := graphMoreRow.holds Try.pinned (OpenSpec.ofChange graphMoreWrong)

/- THE SECOND FORM. 'bulk': how many values and letters a reading holds, each counted each time it is reached (what is shared counts as often as it is met; a slice's spare places count too). A statement '..UptoSaid' is the law's where the arguments, and the package variables that the reading takes, are together of bulk at most 1048576: NARROWER than '..Said'. Prove '..Said' where nothing that the law and all that it calls make is longer than what came in: it says more and counts as full. Else prove '..UptoSaid'. A law counts once. -/
mutual
def uptoBulk {H : Type} : DataW H → Nat
  | .lit (.string bytes) => bytes.length + 1
  | .lit _ => 1
  | .nil => 1
  | .ptr d => uptoBulk d + 1
  | .slice elems spare => uptoBulkAll elems + uptoBulkAll spare + 1
  | .agg parts => uptoBulkAll parts + 1
  | .iface _ d => uptoBulk d + 1
  | .map entries => uptoBulkEntries entries + 1
  | .held _ => 1
def uptoBulkAll {H : Type} : List (DataW H) → Nat
  | [] => 0
  | d :: r => uptoBulk d + uptoBulkAll r
def uptoBulkEntries {H : Type} : List (Lit × DataW H) → Nat
  | [] => 0
  | x :: r => uptoBulkEntry x + uptoBulkEntries r
def uptoBulkEntry {H : Type} : Lit × DataW H → Nat
  | (.string bytes, d) => bytes.length + uptoBulk d + 1
  | (_, d) => uptoBulk d + 1
 end
def uptoSmall : (H : Type) → List (DataW H) → Bool := fun _ ds => decide (uptoBulkAll ds ≤ 1048576)
def OpenSpec.upto (s : _root_.Go.ChangeSpec) : _root_.Go.OpenSpec := { _root_.Go.OpenSpec.ofChange s with cond := some uptoSmall }

/-- 'reticulelaw03.GraphOnce', WHERE WHAT IT READS IS OF BULK AT MOST 1048576: true; the input reads as it did. -/
def graphOnceUptoRow : OpenClaim := { program := "ytkpaefeaplgnmaa", sum := "d28c90d914243e7efa37694767115fed835c20bbfb85e4ff2e3417ad8e22f4ed", func := "reticule/reticulelaw03.GraphOnce", spec := "graphOnce", unfollowed := true, recurses := true, plainKeys := false, apart := false, narrowed := true }
def GraphOnceUptoSaid : Prop := graphOnceUptoRow.holds Try.pinned (OpenSpec.upto graphOnceSpec)

/-- 'reticulelaw03.GraphPlays', WHERE WHAT IT READS IS OF BULK AT MOST 1048576: true; the input reads as it did. -/
def graphPlaysUptoRow : OpenClaim := { program := "ytkpaefeaplgnmaa", sum := "d28c90d914243e7efa37694767115fed835c20bbfb85e4ff2e3417ad8e22f4ed", func := "reticule/reticulelaw03.GraphPlays", spec := "graphPlays", unfollowed := true, recurses := true, plainKeys := false, apart := false, narrowed := true }
def GraphPlaysUptoSaid : Prop := graphPlaysUptoRow.holds Try.pinned (OpenSpec.upto graphPlaysSpec)

/-- 'reticulelaw03.GraphTurned', WHERE WHAT IT READS IS OF BULK AT MOST 1048576: true; the input reads as it did. -/
def graphTurnedUptoRow : OpenClaim := { program := "ytkpaefeaplgnmaa", sum := "d28c90d914243e7efa37694767115fed835c20bbfb85e4ff2e3417ad8e22f4ed", func := "reticule/reticulelaw03.GraphTurned", spec := "graphTurned", unfollowed := true, recurses := true, plainKeys := false, apart := false, narrowed := true }
def GraphTurnedUptoSaid : Prop := graphTurnedUptoRow.holds Try.pinned (OpenSpec.upto graphTurnedSpec)

/-- 'reticulelaw03.GraphBytes', WHERE WHAT IT READS IS OF BULK AT MOST 1048576: true; the input reads as it did. -/
def graphBytesUptoRow : OpenClaim := { program := "ytkpaefeaplgnmaa", sum := "d28c90d914243e7efa37694767115fed835c20bbfb85e4ff2e3417ad8e22f4ed", func := "reticule/reticulelaw03.GraphBytes", spec := "graphBytes", unfollowed := true, recurses := true, plainKeys := false, apart := false, narrowed := true }
def GraphBytesUptoSaid : Prop := graphBytesUptoRow.holds Try.pinned (OpenSpec.upto graphBytesSpec)

/-- 'reticulelaw03.GraphBack', WHERE WHAT IT READS IS OF BULK AT MOST 1048576: true; the input reads as it did. -/
def graphBackUptoRow : OpenClaim := { program := "ytkpaefeaplgnmaa", sum := "d28c90d914243e7efa37694767115fed835c20bbfb85e4ff2e3417ad8e22f4ed", func := "reticule/reticulelaw03.GraphBack", spec := "graphBack", unfollowed := true, recurses := true, plainKeys := false, apart := false, narrowed := true }
def GraphBackUptoSaid : Prop := graphBackUptoRow.holds Try.pinned (OpenSpec.upto graphBackSpec)

/-- 'reticulelaw03.GraphLevels', WHERE WHAT IT READS IS OF BULK AT MOST 1048576: true; the input reads as it did. -/
def graphLevelsUptoRow : OpenClaim := { program := "ytkpaefeaplgnmaa", sum := "d28c90d914243e7efa37694767115fed835c20bbfb85e4ff2e3417ad8e22f4ed", func := "reticule/reticulelaw03.GraphLevels", spec := "graphLevels", unfollowed := true, recurses := true, plainKeys := false, apart := false, narrowed := true }
def GraphLevelsUptoSaid : Prop := graphLevelsUptoRow.holds Try.pinned (OpenSpec.upto graphLevelsSpec)

/-- 'reticulelaw03.GraphMore', WHERE WHAT IT READS IS OF BULK AT MOST 1048576: true; the input reads as it did. -/
def graphMoreUptoRow : OpenClaim := { program := "ytkpaefeaplgnmaa", sum := "d28c90d914243e7efa37694767115fed835c20bbfb85e4ff2e3417ad8e22f4ed", func := "reticule/reticulelaw03.GraphMore", spec := "graphMore", unfollowed := true, recurses := true, plainKeys := false, apart := false, narrowed := true }
def GraphMoreUptoSaid : Prop := graphMoreUptoRow.holds Try.pinned (OpenSpec.upto graphMoreSpec)

end Rows
end Go.Proofs.Ytkpaefeaplgnmaa
