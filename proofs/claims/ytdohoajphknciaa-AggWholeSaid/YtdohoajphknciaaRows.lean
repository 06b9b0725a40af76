/-
  No cell of these rows narrows 'for every input' (looked for: loops, veiled, ifaces, maps, wideKeys, modest, calm, conditions, laid).
  DERIVED. THE GIVEN ROWS OF THIS SEAT. 6 by the template 'for every input the law returns true; each argument reads behind the call as it read before'; 0 by the template 'total and deterministic' (their statements: YtdohoajphknciaaTotals.lean).
  GIVEN WITH THE SEED: the statements are not yours to turn. If you find one false, say at which input.
  Laid BY PROGRAM, IN A SANDBOX (cutbox-rows.mjs): the forced cells as the released guide's own fill.sh prints them over the translation 35442575e6701e95… (all of the seat's roots in one cut). By AI agents, Wed Nov 11 2026. No macro, syntax, notation, axiom, sorry.
-/
import Derived.Test.YtdohoajphknciaaChecked
import GoSem.Claim
import GoSem.ClaimJoined
import GoSem.ClaimMapViews
import Derived.JoinedTies
import Derived.KernelRfl
namespace Go.Proofs.Ytdohoajphknciaa
/- THE CELL 'sum', in the pinned program and in every row, IS THE sha256 OF THE DUMP (.gsa) THAT YtdohoajphknciaaProg.lean LOADS. Nothing in Lean hashes anything: it is a label: what it is worth is what the hold of that sum in a sandbox is worth. -/
noncomputable def Try.pinned : Pinned := { name := "ytdohoajphknciaa", sum := "35442575e6701e9546ea6dc91ac5f13ff210be8acb73a5f9f2a26960fba8e653", checked := Try.checked }
namespace Rows
def none {H : Type} : Left H := { results := [], args := [] }

/-- 'reticulelaw22.AggPlays': WHATEVER THE INPUT: true; the input reads as it did. -/
def aggPlaysSpec : ChangeSpec := { name := "aggPlays", fn := fun _ => fun
  | [d1, d2, d3] => { results := [.lit (.bool true)], args := [d1, d2, d3] }
  | _ => none }
def aggPlaysRow : OpenClaim := { program := "ytdohoajphknciaa", sum := "35442575e6701e9546ea6dc91ac5f13ff210be8acb73a5f9f2a26960fba8e653", func := "reticule/reticulelaw22.AggPlays", spec := "aggPlays", unfollowed := true, recurses := true, apart := false }
def AggPlaysSaid : Prop := aggPlaysRow.holds Try.pinned (OpenSpec.ofChange aggPlaysSpec)

/-- ITS FALSE NEIGHBOUR: 'it returns false'. Refute it at one input. -/
def aggPlaysWrong : ChangeSpec := { name := "aggPlays", fn := fun _ => fun
  | [d1, d2, d3] => { results := [.lit (.bool false)], args := [d1, d2, d3] }
  | _ => none }
def AggPlaysWrongFalsely : Prop := aggPlaysRow.holds Try.pinned (OpenSpec.ofChange aggPlaysWrong)

/-- 'reticulelaw22.AggWhole': WHATEVER THE INPUT: true; the input reads as it did. -/
def aggWholeSpec : ChangeSpec := { name := "aggWhole", fn := fun _ => fun
  | [d1, d2, d3] => { results := [.lit (.bool true)], args := [d1, d2, d3] }
  | _ => none }
def aggWholeRow : OpenClaim := { program := "ytdohoajphknciaa", sum := "35442575e6701e9546ea6dc91ac5f13ff210be8acb73a5f9f2a26960fba8e653", func := "reticule/reticulelaw22.AggWhole", spec := "aggWhole", unfollowed := true, recurses := true, apart := false }
def AggWholeSaid : Prop := aggWholeRow.holds Try.pinned (OpenSpec.ofChange aggWholeSpec)

/-- ITS FALSE NEIGHBOUR: 'it returns false'. Refute it at one input. -/
def aggWholeWrong : ChangeSpec := { name := "aggWhole", fn := fun _ => fun
  | [d1, d2, d3] => { results := [.lit (.bool false)], args := [d1, d2, d3] }
  | _ => none }
def AggWholeWrongFalsely : Prop := aggWholeRow.holds Try.pinned (OpenSpec.ofChange aggWholeWrong)

/-- 'reticulelaw22.AggForks': WHATEVER THE INPUT: true; the input reads as it did. -/
def aggForksSpec : ChangeSpec := { name := "aggForks", fn := fun _ => fun
  | [d1, d2, d3] => { results := [.lit (.bool true)], args := [d1, d2, d3] }
  | _ => none }
def aggForksRow : OpenClaim := { program := "ytdohoajphknciaa", sum := "35442575e6701e9546ea6dc91ac5f13ff210be8acb73a5f9f2a26960fba8e653", func := "reticule/reticulelaw22.AggForks", spec := "aggForks", unfollowed := true, recurses := true, apart := false }
def AggForksSaid : Prop := aggForksRow.holds Try.pinned (OpenSpec.ofChange aggForksSpec)

/-- ITS FALSE NEIGHBOUR: 'it returns false'. Refute it at one input. -/
def aggForksWrong : ChangeSpec := { name := "aggForks", fn := fun _ => fun
  | [d1, d2, d3] => { results := [.lit (.bool false)], args := [d1, d2, d3] }
  | _ => none }
def AggForksWrongFalsely : Prop := aggForksRow.holds Try.pinned (OpenSpec.ofChange aggForksWrong)

/-- 'reticulelaw22.AggMerges': WHATEVER THE INPUT: true; the input reads as it did. -/
def aggMergesSpec : ChangeSpec := { name := "aggMerges", fn := fun _ => fun
  | [d1, d2, d3] => { results := [.lit (.bool true)], args := [d1, d2, d3] }
  | _ => none }
def aggMergesRow : OpenClaim := { program := "ytdohoajphknciaa", sum := "35442575e6701e9546ea6dc91ac5f13ff210be8acb73a5f9f2a26960fba8e653", func := "reticule/reticulelaw22.AggMerges", spec := "aggMerges", unfollowed := true, recurses := true, apart := false }
def AggMergesSaid : Prop := aggMergesRow.holds Try.pinned (OpenSpec.ofChange aggMergesSpec)

/-- ITS FALSE NEIGHBOUR: 'it returns false'. Refute it at one input. -/
def aggMergesWrong : ChangeSpec := { name := "aggMerges", fn := fun _ => fun
  | [d1, d2, d3] => { results := [.lit (.bool false)], args := [d1, d2, d3] }
  | _ => none }
def AggMergesWrongFalsely : Prop := aggMergesRow.holds Try.pinned (OpenSpec.ofChange aggMergesWrong)

/-- 'reticulelaw22.AggNone': WHATEVER THE INPUT: true; the input reads as it did. -/
def aggNoneSpec : ChangeSpec := { name := "aggNone", fn := fun _ => fun
  | [d1, d2, d3] => { results := [.lit (.bool true)], args := [d1, d2, d3] }
  | _ => none }
def aggNoneRow : OpenClaim := { program := "ytdohoajphknciaa", sum := "35442575e6701e9546ea6dc91ac5f13ff210be8acb73a5f9f2a26960fba8e653", func := "reticule/reticulelaw22.AggNone", spec := "aggNone", unfollowed := true, recurses := true, apart := false }
def AggNoneSaid : Prop := aggNoneRow.holds Try.pinned (OpenSpec.ofChange aggNoneSpec)

/-- ITS FALSE NEIGHBOUR: 'it returns false'. Refute it at one input. -/
def aggNoneWrong : ChangeSpec := { name := "aggNone", fn := fun _ => fun
  | [d1, d2, d3] => { results := [.lit (.bool false)], args := [d1, d2, d3] }
  | _ => none }
def AggNoneWrongFalsely : Prop := aggNoneRow.holds Try.pinned (OpenSpec.ofChange aggNoneWrong)

/-- 'reticuletop.TopTaken': WHATEVER THE INPUT: true; the input reads as it did. -/
def topTakenSpec : ChangeSpec := { name := "topTaken", fn := fun _ => fun
  | [d1, d2, d3] => { results := [.lit (.bool true)], args := [d1, d2, d3] }
  | _ => none }
def topTakenRow : OpenClaim := { program := "ytdohoajphknciaa", sum := "35442575e6701e9546ea6dc91ac5f13ff210be8acb73a5f9f2a26960fba8e653", func := "reticule/reticuletop.TopTaken", spec := "topTaken", apart := false }
def TopTakenSaid : Prop := topTakenRow.holds Try.pinned (OpenSpec.ofChange topTakenSpec)

/-- ITS FALSE NEIGHBOUR: 'it returns false'. Refute it at one input. -/
def topTakenWrong : ChangeSpec := { name := "topTaken", fn := fun _ => fun
  | [d1, d2, d3] => { results := [.lit (.bool false)], args := [d1, d2, d3] }
  | _ => none }
def TopTakenWrongFalsely : Prop := topTakenRow.holds Try.pinned (OpenSpec.ofChange topTakenWrong)

/- THE SECOND FORM. 'bulk': how many values and letters a reading holds, each counted each time it is reached (what is shared counts as often as it is met; a slice's spare places count too). A statement '..UptoSaid' is the law's where the arguments, and the package variables that the reading takes, are together of bulk at most 1048576: NARROWER than '..Said'. Prove '..Said' where nothing that the law and all that it calls make is longer than what came in: it says more and counts as full. Else prove '..UptoSaid'. A law counts once. -/
mutual
def uptoBulk {H : Type} : DataW H → Nat
  | .lit (.string bytes) => bytes.length + 1
  | .lit _ => 1
  | .nil => 1
  | .ptr d => uptoBulk d + 1
  | .slice elems spare => uptoBulkAll elems + uptoBulkAll spare + 1
  | .agg parts => uptoBulkAll parts + 1
  | .iface _ d => uptoBulk d + 1
  | .map entries => uptoBulkEntries entries + 1
  | .held _ => 1
def uptoBulkAll {H : Type} : List (DataW H) → Nat
  | [] => 0
  | d :: r => uptoBulk d + uptoBulkAll r
def uptoBulkEntries {H : Type} : List (Lit × DataW H) → Nat
  | [] => 0
  | x :: r => uptoBulkEntry x + uptoBulkEntries r
def uptoBulkEntry {H : Type} : Lit × DataW H → Nat
  | (.string bytes, d) => bytes.length + uptoBulk d + 1
  | (_, d) => uptoBulk d + 1
 end
def uptoSmall : (H : Type) → List (DataW H) → Bool := fun _ ds => decide (uptoBulkAll ds ≤ 1048576)
def OpenSpec.upto (s : _root_.Go.ChangeSpec) : _root_.Go.OpenSpec := { _root_.Go.OpenSpec.ofChange s with cond := some uptoSmall }

/-- 'reticulelaw22.AggPlays', WHERE WHAT IT READS IS OF BULK AT MOST 1048576: true; the input reads as it did. -/
def aggPlaysUptoRow : OpenClaim := { program := "ytdohoajphknciaa", sum := "35442575e6701e9546ea6dc91ac5f13ff210be8acb73a5f9f2a26960fba8e653", func := "reticule/reticulelaw22.AggPlays", spec := "aggPlays", unfollowed := true, recurses := true, apart := false, narrowed := true }
def AggPlaysUptoSaid : Prop := aggPlaysUptoRow.holds Try.pinned (OpenSpec.upto aggPlaysSpec)

/-- 'reticulelaw22.AggWhole', WHERE WHAT IT READS IS OF BULK AT MOST 1048576: true; the input reads as it did. -/
def aggWholeUptoRow : OpenClaim := { program := "ytdohoajphknciaa", sum := "35442575e6701e9546ea6dc91ac5f13ff210be8acb73a5f9f2a26960fba8e653", func := "reticule/reticulelaw22.AggWhole", spec := "aggWhole", unfollowed := true, recurses := true, apart := false, narrowed := true }
def AggWholeUptoSaid : Prop := aggWholeUptoRow.holds Try.pinned (OpenSpec.upto aggWholeSpec)

/-- 'reticulelaw22.AggForks', WHERE WHAT IT READS IS OF BULK AT MOST 1048576: true; the input reads as it did. -/
def aggForksUptoRow : OpenClaim := { program := "ytdohoajphknciaa", sum := "35442575e6701e9546ea6dc91ac5f13ff210be8acb73a5f9f2a26960fba8e653", func := "reticule/reticulelaw22.AggForks", spec := "aggForks", unfollowed := true, recurses := true, apart := false, narrowed := true }
def AggForksUptoSaid : Prop := aggForksUptoRow.holds Try.pinned (OpenSpec.upto aggForksSpec)

/-- 'reticulelaw22.AggMerges', WHERE WHAT IT READS IS OF BULK AT MOST 1048576: true; the input reads as it did. -/
def aggMergesUptoRow : OpenClaim := { program := "ytdohoajphknciaa", sum := "35442575e6701e9546ea6dc91ac5f13ff210be8acb73a5f9f2a26960fba8e653", func := "reticule/reticulelaw22.AggMerges", spec := "aggMerges", unfollowed := true, recurses := true, apart := false, narrowed := true }
def AggMergesUptoSaid : Prop := aggMergesUptoRow.holds Try.pinned (OpenSpec.upto aggMergesSpec)

/-- 'reticulelaw22.AggNone', WHERE WHAT IT READS IS OF BULK AT MOST 1048576: true; the input reads as it did. -/
def aggNoneUptoRow : OpenClaim := { program := "ytdohoajphknciaa", sum := "35442575e6701e9546ea6dc91ac5f13ff210be8acb73a5f9f2a26960fba8e653", func := "reticule/reticulelaw22.AggNone", spec := "aggNone", unfollowed := true, recurses := true, apart := false, narrowed := true }
def AggNoneUptoSaid : Prop := aggNoneUptoRow.holds Try.pinned (OpenSpec.upto aggNoneSpec)

/-- 'reticuletop.TopTaken', WHERE WHAT IT READS IS OF BULK AT MOST 1048576: true; the input reads as it did. -/
def topTakenUptoRow : OpenClaim := { program := "ytdohoajphknciaa", sum := "35442575e6701e9546ea6dc91ac5f13ff210be8acb73a5f9f2a26960fba8e653", func := "reticule/reticuletop.TopTaken", spec := "topTaken", apart := false, narrowed := true }
def TopTakenUptoSaid : Prop := topTakenUptoRow.holds Try.pinned (OpenSpec.upto topTakenSpec)

end Rows
end Go.Proofs.Ytdohoajphknciaa
