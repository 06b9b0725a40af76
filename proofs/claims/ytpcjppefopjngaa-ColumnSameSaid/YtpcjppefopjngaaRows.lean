/-
  No cell of these rows narrows 'for every input' (looked for: loops, veiled, ifaces, maps, wideKeys, modest, calm, conditions, laid).
  DERIVED. THE GIVEN ROWS OF THIS SEAT. 7 by the template 'for every input the law returns true; each argument reads behind the call as it read before'; 0 by the template 'total and deterministic' (their statements: YtpcjppefopjngaaTotals.lean).
  GIVEN WITH THE SEED: the statements are not yours to turn. If you find one false, say at which input.
  Laid BY PROGRAM, IN A SANDBOX (cutbox-rows.mjs): the forced cells as the released guide's own fill.sh prints them over the translation 6fbf49ed5fbfe149… (all of the seat's roots in one cut). By AI agents, Wed Nov 11 2026. No macro, syntax, notation, axiom, sorry.
-/
import Derived.Test.YtpcjppefopjngaaChecked
import GoSem.Claim
import GoSem.ClaimJoined
import GoSem.ClaimMapViews
import Derived.JoinedTies
import Derived.KernelRfl
namespace Go.Proofs.Ytpcjppefopjngaa
/- THE CELL 'sum', in the pinned program and in every row, IS THE sha256 OF THE DUMP (.gsa) THAT YtpcjppefopjngaaProg.lean LOADS. Nothing in Lean hashes anything: it is a label: what it is worth is what the hold of that sum in a sandbox is worth. -/
noncomputable def Try.pinned : Pinned := { name := "ytpcjppefopjngaa", sum := "6fbf49ed5fbfe149ab1dd17c38475e58c06bef1922cf83d458ef1385f14f2d4a", checked := Try.checked }
namespace Rows
def none {H : Type} : Left H := { results := [], args := [] }

/-- 'reticulelaw04.ColumnPlays': WHATEVER THE INPUT: true; the input reads as it did. -/
def columnPlaysSpec : ChangeSpec := { name := "columnPlays", fn := fun _ => fun
  | [d1, d2] => { results := [.lit (.bool true)], args := [d1, d2] }
  | _ => none }
def columnPlaysRow : OpenClaim := { program := "ytpcjppefopjngaa", sum := "6fbf49ed5fbfe149ab1dd17c38475e58c06bef1922cf83d458ef1385f14f2d4a", func := "reticule/reticulelaw04.ColumnPlays", spec := "columnPlays", unfollowed := true, recurses := true, plainKeys := false, apart := false }
def ColumnPlaysSaid : Prop := columnPlaysRow.holds Try.pinned (OpenSpec.ofChange columnPlaysSpec)

/-- ITS FALSE NEIGHBOUR: 'it returns false'. Refute it at one input. -/
def columnPlaysWrong : ChangeSpec := { name := "columnPlays", fn := fun _ => fun
  | [d1, d2] => { results := [.lit (.bool false)], args := [d1, d2] }
  | _ => none }
def ColumnPlaysWrongFalsely : Prop := columnPlaysRow.holds Try.pinned (OpenSpec.ofChange columnPlaysWrong)

/-- 'reticulelaw04.ColumnLast': WHATEVER THE INPUT: true; the input reads as it did. -/
def columnLastSpec : ChangeSpec := { name := "columnLast", fn := fun _ => fun
  | [d1, d2, d3] => { results := [.lit (.bool true)], args := [d1, d2, d3] }
  | _ => none }
def columnLastRow : OpenClaim := { program := "ytpcjppefopjngaa", sum := "6fbf49ed5fbfe149ab1dd17c38475e58c06bef1922cf83d458ef1385f14f2d4a", func := "reticule/reticulelaw04.ColumnLast", spec := "columnLast", unfollowed := true, recurses := true, plainKeys := false, apart := false }
def ColumnLastSaid : Prop := columnLastRow.holds Try.pinned (OpenSpec.ofChange columnLastSpec)

/-- ITS FALSE NEIGHBOUR: 'it returns false'. Refute it at one input. -/
def columnLastWrong : ChangeSpec := { name := "columnLast", fn := fun _ => fun
  | [d1, d2, d3] => { results := [.lit (.bool false)], args := [d1, d2, d3] }
  | _ => none }
def ColumnLastWrongFalsely : Prop := columnLastRow.holds Try.pinned (OpenSpec.ofChange columnLastWrong)

/-- 'reticulelaw04.ColumnFits': WHATEVER THE INPUT: true; the input reads as it did. -/
def columnFitsSpec : ChangeSpec := { name := "columnFits", fn := fun _ => fun
  | [d] => { results := [.lit (.bool true)], args := [d] }
  | _ => none }
def columnFitsRow : OpenClaim := { program := "ytpcjppefopjngaa", sum := "6fbf49ed5fbfe149ab1dd17c38475e58c06bef1922cf83d458ef1385f14f2d4a", func := "reticule/reticulelaw04.ColumnFits", spec := "columnFits", unfollowed := true, recurses := true, plainKeys := false, apart := false }
def ColumnFitsSaid : Prop := columnFitsRow.holds Try.pinned (OpenSpec.ofChange columnFitsSpec)

/-- ITS FALSE NEIGHBOUR: 'it returns false'. Refute it at one input. -/
def columnFitsWrong : ChangeSpec := { name := "columnFits", fn := fun _ => fun
  | [d] => { results := [.lit (.bool false)], args := [d] }
  | _ => none }
def ColumnFitsWrongFalsely : Prop := columnFitsRow.holds Try.pinned (OpenSpec.ofChange columnFitsWrong)

/-- 'reticulelaw04.ColumnForks': WHATEVER THE INPUT: true; the input reads as it did. -/
def columnForksSpec : ChangeSpec := { name := "columnForks", fn := fun _ => fun
  | [d1, d2] => { results := [.lit (.bool true)], args := [d1, d2] }
  | _ => none }
def columnForksRow : OpenClaim := { program := "ytpcjppefopjngaa", sum := "6fbf49ed5fbfe149ab1dd17c38475e58c06bef1922cf83d458ef1385f14f2d4a", func := "reticule/reticulelaw04.ColumnForks", spec := "columnForks", unfollowed := true, recurses := true, plainKeys := false, apart := false }
def ColumnForksSaid : Prop := columnForksRow.holds Try.pinned (OpenSpec.ofChange columnForksSpec)

/-- ITS FALSE NEIGHBOUR: 'it returns false'. Refute it at one input. -/
def columnForksWrong : ChangeSpec := { name := "columnForks", fn := fun _ => fun
  | [d1, d2] => { results := [.lit (.bool false)], args := [d1, d2] }
  | _ => none }
def ColumnForksWrongFalsely : Prop := columnForksRow.holds Try.pinned (OpenSpec.ofChange columnForksWrong)

/-- 'reticulelaw04.ColumnSame': WHATEVER THE INPUT: true; the input reads as it did. -/
def columnSameSpec : ChangeSpec := { name := "columnSame", fn := fun _ => fun
  | [d1, d2] => { results := [.lit (.bool true)], args := [d1, d2] }
  | _ => none }
def columnSameRow : OpenClaim := { program := "ytpcjppefopjngaa", sum := "6fbf49ed5fbfe149ab1dd17c38475e58c06bef1922cf83d458ef1385f14f2d4a", func := "reticule/reticulelaw04.ColumnSame", spec := "columnSame", unfollowed := true, recurses := true, plainKeys := false, apart := false }
def ColumnSameSaid : Prop := columnSameRow.holds Try.pinned (OpenSpec.ofChange columnSameSpec)

/-- ITS FALSE NEIGHBOUR: 'it returns false'. Refute it at one input. -/
def columnSameWrong : ChangeSpec := { name := "columnSame", fn := fun _ => fun
  | [d1, d2] => { results := [.lit (.bool false)], args := [d1, d2] }
  | _ => none }
def ColumnSameWrongFalsely : Prop := columnSameRow.holds Try.pinned (OpenSpec.ofChange columnSameWrong)

/-- 'reticulelaw04.ColumnNone': WHATEVER THE INPUT: true; the input reads as it did. -/
def columnNoneSpec : ChangeSpec := { name := "columnNone", fn := fun _ => fun
  | [d1, d2] => { results := [.lit (.bool true)], args := [d1, d2] }
  | _ => none }
def columnNoneRow : OpenClaim := { program := "ytpcjppefopjngaa", sum := "6fbf49ed5fbfe149ab1dd17c38475e58c06bef1922cf83d458ef1385f14f2d4a", func := "reticule/reticulelaw04.ColumnNone", spec := "columnNone", unfollowed := true, recurses := true, plainKeys := false, apart := false }
def ColumnNoneSaid : Prop := columnNoneRow.holds Try.pinned (OpenSpec.ofChange columnNoneSpec)

/-- ITS FALSE NEIGHBOUR: 'it returns false'. Refute it at one input. -/
def columnNoneWrong : ChangeSpec := { name := "columnNone", fn := fun _ => fun
  | [d1, d2] => { results := [.lit (.bool false)], args := [d1, d2] }
  | _ => none }
def ColumnNoneWrongFalsely : Prop := columnNoneRow.holds Try.pinned (OpenSpec.ofChange columnNoneWrong)

/-- 'reticulelaw04.ColumnBytes': WHATEVER THE INPUT: true; the input reads as it did. -/
def columnBytesSpec : ChangeSpec := { name := "columnBytes", fn := fun _ => fun
  | [d1, d2] => { results := [.lit (.bool true)], args := [d1, d2] }
  | _ => none }
def columnBytesRow : OpenClaim := { program := "ytpcjppefopjngaa", sum := "6fbf49ed5fbfe149ab1dd17c38475e58c06bef1922cf83d458ef1385f14f2d4a", func := "reticule/reticulelaw04.ColumnBytes", spec := "columnBytes", unfollowed := true, recurses := true, plainKeys := false, apart := false }
def ColumnBytesSaid : Prop := columnBytesRow.holds Try.pinned (OpenSpec.ofChange columnBytesSpec)

/-- ITS FALSE NEIGHBOUR: 'it returns false'. Refute it at one input. -/
def columnBytesWrong : ChangeSpec := { name := "columnBytes", fn := fun _ => fun
  | [d1, d2] => { results := [.lit (.bool false)], args := [d1, d2] }
  | _ => none }
def ColumnBytesWrongFalsely : Prop := columnBytesRow.holds Try.pinned (OpenSpec.ofChange columnBytesWrong)

/- THE SECOND FORM. 'bulk': how many values and letters a reading holds, each counted each time it is reached (what is shared counts as often as it is met; a slice's spare places count too). A statement '..UptoSaid' is the law's where the arguments, and the package variables that the reading takes, are together of bulk at most 1048576: NARROWER than '..Said'. Prove '..Said' where nothing that the law and all that it calls make is longer than what came in: it says more and counts as full. Else prove '..UptoSaid'. A law counts once. -/
mutual
def uptoBulk {H : Type} : DataW H → Nat
  | .lit (.string bytes) => bytes.length + 1
  | .lit _ => 1
  | .nil => 1
  | .ptr d => uptoBulk d + 1
  | .slice elems spare => uptoBulkAll elems + uptoBulkAll spare + 1
  | .agg parts => uptoBulkAll parts + 1
  | .iface _ d => uptoBulk d + 1
  | .map entries => uptoBulkEntries entries + 1
  | .held _ => 1
def uptoBulkAll {H : Type} : List (DataW H) → Nat
  | [] => 0
  | d :: r => uptoBulk d + uptoBulkAll r
def uptoBulkEntries {H : Type} : List (Lit × DataW H) → Nat
  | [] => 0
  | x :: r => uptoBulkEntry x + uptoBulkEntries r
def uptoBulkEntry {H : Type} : Lit × DataW H → Nat
  | (.string bytes, d) => bytes.length + uptoBulk d + 1
  | (_, d) => uptoBulk d + 1
 end
def uptoSmall : (H : Type) → List (DataW H) → Bool := fun _ ds => decide (uptoBulkAll ds ≤ 1048576)
def OpenSpec.upto (s : _root_.Go.ChangeSpec) : _root_.Go.OpenSpec := { _root_.Go.OpenSpec.ofChange s with cond := some uptoSmall }

/-- 'reticulelaw04.ColumnPlays', WHERE WHAT IT READS IS OF BULK AT MOST 1048576: true; the input reads as it did. -/
def columnPlaysUptoRow : OpenClaim := { program := "ytpcjppefopjngaa", sum := "6fbf49ed5fbfe149ab1dd17c38475e58c06bef1922cf83d458ef1385f14f2d4a", func := "reticule/reticulelaw04.ColumnPlays", spec := "columnPlays", unfollowed := true, recurses := true, plainKeys := false, apart := false, narrowed := true }
def ColumnPlaysUptoSaid : Prop := columnPlaysUptoRow.holds Try.pinned (OpenSpec.upto columnPlaysSpec)

/-- 'reticulelaw04.ColumnLast', WHERE WHAT IT READS IS OF BULK AT MOST 1048576: true; the input reads as it did. -/
def columnLastUptoRow : OpenClaim := { program := "ytpcjppefopjngaa", sum := "6fbf49ed5fbfe149ab1dd17c38475e58c06bef1922cf83d458ef1385f14f2d4a", func := "reticule/reticulelaw04.ColumnLast", spec := "columnLast", unfollowed := true, recurses := true, plainKeys := false, apart := false, narrowed := true }
def ColumnLastUptoSaid : Prop := columnLastUptoRow.holds Try.pinned (OpenSpec.upto columnLastSpec)

/-- 'reticulelaw04.ColumnFits', WHERE WHAT IT READS IS OF BULK AT MOST 1048576: true; the input reads as it did. -/
def columnFitsUptoRow : OpenClaim := { program := "ytpcjppefopjngaa", sum := "6fbf49ed5fbfe149ab1dd17c38475e58c06bef1922cf83d458ef1385f14f2d4a", func := "reticule/reticulelaw04.ColumnFits", spec := "columnFits", unfollowed := true, recurses := true, plainKeys := false, apart := false, narrowed := true }
def ColumnFitsUptoSaid : Prop := columnFitsUptoRow.holds Try.pinned (OpenSpec.upto columnFitsSpec)

/-- 'reticulelaw04.ColumnForks', WHERE WHAT IT READS IS OF BULK AT MOST 1048576: true; the input reads as it did. -/
def columnForksUptoRow : OpenClaim := { program := "ytpcjppefopjngaa", sum := "6fbf49ed5fbfe149ab1dd17c38475e58c06bef1922cf83d458ef1385f14f2d4a", func := "reticule/reticulelaw04.ColumnForks", spec := "columnForks", unfollowed := true, recurses := true, plainKeys := false, apart := false, narrowed := true }
def ColumnForksUptoSaid : Prop := columnForksUptoRow.holds Try.pinned (OpenSpec.upto columnForksSpec)

/-- 'reticulelaw04.ColumnSame', WHERE WHAT IT READS IS OF BULK AT MOST 1048576: true; the input reads as it did. -/
def columnSameUptoRow : OpenClaim := { program := "ytpcjppefopjngaa", sum := "6fbf49ed5fbfe149ab1dd17c38475e58c06bef1922cf83d458ef1385f14f2d4a", func := "reticule/reticulelaw04.ColumnSame", spec := "columnSame", unfollowed := true, recurses := true, plainKeys := false, apart := false, narrowed := true }
def ColumnSameUptoSaid : Prop := columnSameUptoRow.holds Try.pinned (OpenSpec.upto columnSameSpec)

/-- 'reticulelaw04.ColumnNone', WHERE WHAT IT READS IS OF BULK AT MOST 1048576: true; the input reads as it did. -/
def columnNoneUptoRow : OpenClaim := { program := "ytpcjppefopjngaa", sum := "6fbf49ed5fbfe149ab1dd17c38475e58c06bef1922cf83d458ef1385f14f2d4a", func := "reticule/reticulelaw04.ColumnNone", spec := "columnNone", unfollowed := true, recurses := true, plainKeys := false, apart := false, narrowed := true }
def ColumnNoneUptoSaid : Prop := columnNoneUptoRow.holds Try.pinned (OpenSpec.upto columnNoneSpec)

/-- 'reticulelaw04.ColumnBytes', WHERE WHAT IT READS IS OF BULK AT MOST 1048576: true; the input reads as it did. -/
def columnBytesUptoRow : OpenClaim := { program := "ytpcjppefopjngaa", sum := "6fbf49ed5fbfe149ab1dd17c38475e58c06bef1922cf83d458ef1385f14f2d4a", func := "reticule/reticulelaw04.ColumnBytes", spec := "columnBytes", unfollowed := true, recurses := true, plainKeys := false, apart := false, narrowed := true }
def ColumnBytesUptoSaid : Prop := columnBytesUptoRow.holds Try.pinned (OpenSpec.upto columnBytesSpec)

end Rows
end Go.Proofs.Ytpcjppefopjngaa
