/-
  No cell of these rows narrows 'for every input' (looked for: loops, veiled, ifaces, maps, wideKeys, modest, calm, conditions, laid).
  DERIVED. THE GIVEN ROWS OF THIS SEAT. 4 by the template 'for every input the law returns true; each argument reads behind the call as it read before'; 0 by the template 'total and deterministic' (their statements: YtgdpdigpbbjhpaaTotals.lean).
  GIVEN WITH THE SEED: the statements are not yours to turn. If you find one false, say at which input.
  Laid BY PROGRAM, IN A SANDBOX (cutbox-rows.mjs): the forced cells as the released guide's own fill.sh prints them over the translation d94a32500eb5fc49… (all of the seat's roots in one cut). By AI agents, Wed Nov 11 2026. No macro, syntax, notation, axiom, sorry.
-/
import Derived.Test.YtgdpdigpbbjhpaaChecked
import GoSem.Claim
import GoSem.ClaimJoined
import GoSem.ClaimMapViews
import Derived.JoinedTies
import Derived.KernelRfl
namespace Go.Proofs.Ytgdpdigpbbjhpaa
/- THE CELL 'sum', in the pinned program and in every row, IS THE sha256 OF THE DUMP (.gsa) THAT YtgdpdigpbbjhpaaProg.lean LOADS. Nothing in Lean hashes anything: it is a label: what it is worth is what the hold of that sum in a sandbox is worth. -/
noncomputable def Try.pinned : Pinned := { name := "ytgdpdigpbbjhpaa", sum := "d94a32500eb5fc4943fdd750d80c4fbc25b87a5a9898c16250e482f1b431fd29", checked := Try.checked }
namespace Rows
def none {H : Type} : Left H := { results := [], args := [] }

/-- 'reticulelaw12.ClashRegions': WHATEVER THE INPUT: true; the input reads as it did. -/
def clashRegionsSpec : ChangeSpec := { name := "clashRegions", fn := fun _ => fun
  | [d] => { results := [.lit (.bool true)], args := [d] }
  | _ => none }
def clashRegionsRow : OpenClaim := { program := "ytgdpdigpbbjhpaa", sum := "d94a32500eb5fc4943fdd750d80c4fbc25b87a5a9898c16250e482f1b431fd29", func := "reticule/reticulelaw12.ClashRegions", spec := "clashRegions", unfollowed := true, recurses := true, apart := false }
def ClashRegionsSaid : Prop := clashRegionsRow.holds Try.pinned (OpenSpec.ofChange clashRegionsSpec)

/-- ITS FALSE NEIGHBOUR: 'it returns false'. Refute it at one input. -/
def clashRegionsWrong : ChangeSpec := { name := "clashRegions", fn := fun _ => fun
  | [d] => { results := [.lit (.bool false)], args := [d] }
  | _ => none }
def ClashRegionsWrongFalsely : Prop := clashRegionsRow.holds Try.pinned (OpenSpec.ofChange clashRegionsWrong)

/-- 'reticulelaw12.ClashTurns': WHATEVER THE INPUT: true; the input reads as it did. -/
def clashTurnsSpec : ChangeSpec := { name := "clashTurns", fn := fun _ => fun
  | [d1, d2] => { results := [.lit (.bool true)], args := [d1, d2] }
  | _ => none }
def clashTurnsRow : OpenClaim := { program := "ytgdpdigpbbjhpaa", sum := "d94a32500eb5fc4943fdd750d80c4fbc25b87a5a9898c16250e482f1b431fd29", func := "reticule/reticulelaw12.ClashTurns", spec := "clashTurns", unfollowed := true, recurses := true, apart := false }
def ClashTurnsSaid : Prop := clashTurnsRow.holds Try.pinned (OpenSpec.ofChange clashTurnsSpec)

/-- ITS FALSE NEIGHBOUR: 'it returns false'. Refute it at one input. -/
def clashTurnsWrong : ChangeSpec := { name := "clashTurns", fn := fun _ => fun
  | [d1, d2] => { results := [.lit (.bool false)], args := [d1, d2] }
  | _ => none }
def ClashTurnsWrongFalsely : Prop := clashTurnsRow.holds Try.pinned (OpenSpec.ofChange clashTurnsWrong)

/-- 'reticulelaw12.ClashFewer': WHATEVER THE INPUT: true; the input reads as it did. -/
def clashFewerSpec : ChangeSpec := { name := "clashFewer", fn := fun _ => fun
  | [d1, d2] => { results := [.lit (.bool true)], args := [d1, d2] }
  | _ => none }
def clashFewerRow : OpenClaim := { program := "ytgdpdigpbbjhpaa", sum := "d94a32500eb5fc4943fdd750d80c4fbc25b87a5a9898c16250e482f1b431fd29", func := "reticule/reticulelaw12.ClashFewer", spec := "clashFewer", unfollowed := true, recurses := true, apart := false }
def ClashFewerSaid : Prop := clashFewerRow.holds Try.pinned (OpenSpec.ofChange clashFewerSpec)

/-- ITS FALSE NEIGHBOUR: 'it returns false'. Refute it at one input. -/
def clashFewerWrong : ChangeSpec := { name := "clashFewer", fn := fun _ => fun
  | [d1, d2] => { results := [.lit (.bool false)], args := [d1, d2] }
  | _ => none }
def ClashFewerWrongFalsely : Prop := clashFewerRow.holds Try.pinned (OpenSpec.ofChange clashFewerWrong)

/-- 'reticulelaw12.ClashBatches': WHATEVER THE INPUT: true; the input reads as it did. -/
def clashBatchesSpec : ChangeSpec := { name := "clashBatches", fn := fun _ => fun
  | [d] => { results := [.lit (.bool true)], args := [d] }
  | _ => none }
def clashBatchesRow : OpenClaim := { program := "ytgdpdigpbbjhpaa", sum := "d94a32500eb5fc4943fdd750d80c4fbc25b87a5a9898c16250e482f1b431fd29", func := "reticule/reticulelaw12.ClashBatches", spec := "clashBatches", unfollowed := true, recurses := true, apart := false }
def ClashBatchesSaid : Prop := clashBatchesRow.holds Try.pinned (OpenSpec.ofChange clashBatchesSpec)

/-- ITS FALSE NEIGHBOUR: 'it returns false'. Refute it at one input. -/
def clashBatchesWrong : ChangeSpec := { name := "clashBatches", fn := fun _ => fun
  | [d] => { results := [.lit (.bool false)], args := [d] }
  | _ => none }
def ClashBatchesWrongFalsely : Prop := clashBatchesRow.holds Try.pinned (OpenSpec.ofChange clashBatchesWrong)

/- THE SECOND FORM. 'bulk': how many values and letters a reading holds, each counted each time it is reached (what is shared counts as often as it is met; a slice's spare places count too). A statement '..UptoSaid' is the law's where the arguments, and the package variables that the reading takes, are together of bulk at most 1048576: NARROWER than '..Said'. Prove '..Said' where nothing that the law and all that it calls make is longer than what came in: it says more and counts as full. Else prove '..UptoSaid'. A law counts once. -/
mutual
def uptoBulk {H : Type} : DataW H → Nat
  | .lit (.string bytes) => bytes.length + 1
  | .lit _ => 1
  | .nil => 1
  | .ptr d => uptoBulk d + 1
  | .slice elems spare => uptoBulkAll elems + uptoBulkAll spare + 1
  | .agg parts => uptoBulkAll parts + 1
  | .iface _ d => uptoBulk d + 1
  | .map entries => uptoBulkEntries entries + 1
  | .held _ => 1
def uptoBulkAll {H : Type} : List (DataW H) → Nat
  | [] => 0
  | d :: r => uptoBulk d + uptoBulkAll r
def uptoBulkEntries {H : Type} : List (Lit × DataW H) → Nat
  | [] => 0
  | x :: r => uptoBulkEntry x + uptoBulkEntries r
def uptoBulkEntry {H : Type} : Lit × DataW H → Nat
  | (.string bytes, d) => bytes.length + uptoBulk d + 1
  | (_, d) => uptoBulk d + 1
 end
def uptoSmall : (H : Type) → List (DataW H) → Bool := fun _ ds => decide (uptoBulkAll ds ≤ 1048576)
def OpenSpec.upto (s : _root_.Go.ChangeSpec) : _root_.Go.OpenSpec := { _root_.Go.OpenSpec.ofChange s with cond := some uptoSmall }

/-- 'reticulelaw12.ClashRegions', WHERE WHAT IT READS IS OF BULK AT MOST 1048576: true; the input reads as it did. -/
def clashRegionsUptoRow : OpenClaim := { program := "ytgdpdigpbbjhpaa", sum := "d94a32500eb5fc4943fdd750d80c4fbc25b87a5a9898c16250e482f1b431fd29", func := "reticule/reticulelaw12.ClashRegions", spec := "clashRegions", unfollowed := true, recurses := true, apart := false, narrowed := true }
def ClashRegionsUptoSaid : Prop := clashRegionsUptoRow.holds Try.pinned (OpenSpec.upto clashRegionsSpec)

/-- 'reticulelaw12.ClashTurns', WHERE WHAT IT READS IS OF BULK AT MOST 1048576: true; the input reads as it did. -/
def clashTurnsUptoRow : OpenClaim := { program := "ytgdpdigpbbjhpaa", sum := "d94a32500eb5fc4943fdd750d80c4fbc25b87a5a9898c16250e482f1b431fd29", func := "reticule/reticulelaw12.ClashTurns", spec := "clashTurns", unfollowed := true, recurses := true, apart := false, narrowed := true }
def ClashTurnsUptoSaid : Prop := clashTurnsUptoRow.holds Try.pinned (OpenSpec.upto clashTurnsSpec)

/-- 'reticulelaw12.ClashFewer', WHERE WHAT IT READS IS OF BULK AT MOST 1048576: true; the input reads as it did. -/
def clashFewerUptoRow : OpenClaim := { program := "ytgdpdigpbbjhpaa", sum := "d94a32500eb5fc4943fdd750d80c4fbc25b87a5a9898c16250e482f1b431fd29", func := "reticule/reticulelaw12.ClashFewer", spec := "clashFewer", unfollowed := true, recurses := true, apart := false, narrowed := true }
def ClashFewerUptoSaid : Prop := clashFewerUptoRow.holds Try.pinned (OpenSpec.upto clashFewerSpec)

/-- 'reticulelaw12.ClashBatches', WHERE WHAT IT READS IS OF BULK AT MOST 1048576: true; the input reads as it did. -/
def clashBatchesUptoRow : OpenClaim := { program := "ytgdpdigpbbjhpaa", sum := "d94a32500eb5fc4943fdd750d80c4fbc25b87a5a9898c16250e482f1b431fd29", func := "reticule/reticulelaw12.ClashBatches", spec := "clashBatches", unfollowed := true, recurses := true, apart := false, narrowed := true }
def ClashBatchesUptoSaid : Prop := clashBatchesUptoRow.holds Try.pinned (OpenSpec.upto clashBatchesSpec)

end Rows
end Go.Proofs.Ytgdpdigpbbjhpaa
