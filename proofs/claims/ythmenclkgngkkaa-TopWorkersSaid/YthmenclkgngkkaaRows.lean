/-
  No cell of these rows narrows 'for every input' (looked for: loops, veiled, ifaces, maps, wideKeys, modest, calm, conditions, laid).
  DERIVED. THE GIVEN ROWS OF THIS SEAT. 7 by the template 'for every input the law returns true; each argument reads behind the call as it read before'; 0 by the template 'total and deterministic' (their statements: YthmenclkgngkkaaTotals.lean).
  GIVEN WITH THE SEED: the statements are not yours to turn. If you find one false, say at which input.
  Laid BY PROGRAM, IN A SANDBOX (cutbox-rows.mjs): the forced cells as the released guide's own fill.sh prints them over the translation f120ae420e168658… (all of the seat's roots in one cut). By AI agents, Wed Nov 11 2026. No macro, syntax, notation, axiom, sorry.
-/
import Derived.Test.YthmenclkgngkkaaChecked
import GoSem.Claim
import GoSem.ClaimJoined
import GoSem.ClaimMapViews
import Derived.JoinedTies
import Derived.KernelRfl
namespace Go.Proofs.Ythmenclkgngkkaa
/- THE CELL 'sum', in the pinned program and in every row, IS THE sha256 OF THE DUMP (.gsa) THAT YthmenclkgngkkaaProg.lean LOADS. Nothing in Lean hashes anything: it is a label: what it is worth is what the hold of that sum in a sandbox is worth. -/
noncomputable def Try.pinned : Pinned := { name := "ythmenclkgngkkaa", sum := "f120ae420e1686587533b4a318243f1f304ddfc9b6daea354a9aa3ecb9a90cf9", checked := Try.checked }
namespace Rows
def none {H : Type} : Left H := { results := [], args := [] }

/-- 'reticuletop.TopPosted': WHATEVER THE INPUT: true; the input reads as it did. -/
def topPostedSpec : ChangeSpec := { name := "topPosted", fn := fun _ => fun
  | [d1, d2] => { results := [.lit (.bool true)], args := [d1, d2] }
  | _ => none }
def topPostedRow : OpenClaim := { program := "ythmenclkgngkkaa", sum := "f120ae420e1686587533b4a318243f1f304ddfc9b6daea354a9aa3ecb9a90cf9", func := "reticule/reticuletop.TopPosted", spec := "topPosted", unfollowed := true, recurses := true, plainKeys := false, apart := false }
def TopPostedSaid : Prop := topPostedRow.holds Try.pinned (OpenSpec.ofChange topPostedSpec)

/-- ITS FALSE NEIGHBOUR: 'it returns false'. Refute it at one input. -/
def topPostedWrong : ChangeSpec := { name := "topPosted", fn := fun _ => fun
  | [d1, d2] => { results := [.lit (.bool false)], args := [d1, d2] }
  | _ => none }
def TopPostedWrongFalsely : Prop := topPostedRow.holds Try.pinned (OpenSpec.ofChange topPostedWrong)

/-- 'reticulelaw21.MailSums': WHATEVER THE INPUT: true; the input reads as it did. -/
def mailSumsSpec : ChangeSpec := { name := "mailSums", fn := fun _ => fun
  | [d1, d2, d3] => { results := [.lit (.bool true)], args := [d1, d2, d3] }
  | _ => none }
def mailSumsRow : OpenClaim := { program := "ythmenclkgngkkaa", sum := "f120ae420e1686587533b4a318243f1f304ddfc9b6daea354a9aa3ecb9a90cf9", func := "reticule/reticulelaw21.MailSums", spec := "mailSums", unfollowed := true, recurses := true, plainKeys := false, apart := false }
def MailSumsSaid : Prop := mailSumsRow.holds Try.pinned (OpenSpec.ofChange mailSumsSpec)

/-- ITS FALSE NEIGHBOUR: 'it returns false'. Refute it at one input. -/
def mailSumsWrong : ChangeSpec := { name := "mailSums", fn := fun _ => fun
  | [d1, d2, d3] => { results := [.lit (.bool false)], args := [d1, d2, d3] }
  | _ => none }
def MailSumsWrongFalsely : Prop := mailSumsRow.holds Try.pinned (OpenSpec.ofChange mailSumsWrong)

/-- 'reticulelaw21.MailBytes': WHATEVER THE INPUT: true; the input reads as it did. -/
def mailBytesSpec : ChangeSpec := { name := "mailBytes", fn := fun _ => fun
  | [d1, d2] => { results := [.lit (.bool true)], args := [d1, d2] }
  | _ => none }
def mailBytesRow : OpenClaim := { program := "ythmenclkgngkkaa", sum := "f120ae420e1686587533b4a318243f1f304ddfc9b6daea354a9aa3ecb9a90cf9", func := "reticule/reticulelaw21.MailBytes", spec := "mailBytes", unfollowed := true, recurses := true, plainKeys := false, apart := false }
def MailBytesSaid : Prop := mailBytesRow.holds Try.pinned (OpenSpec.ofChange mailBytesSpec)

/-- ITS FALSE NEIGHBOUR: 'it returns false'. Refute it at one input. -/
def mailBytesWrong : ChangeSpec := { name := "mailBytes", fn := fun _ => fun
  | [d1, d2] => { results := [.lit (.bool false)], args := [d1, d2] }
  | _ => none }
def MailBytesWrongFalsely : Prop := mailBytesRow.holds Try.pinned (OpenSpec.ofChange mailBytesWrong)

/-- 'reticuletop.TopWorkers': WHATEVER THE INPUT: true; the input reads as it did. -/
def topWorkersSpec : ChangeSpec := { name := "topWorkers", fn := fun _ => fun
  | [d1, d2, d3] => { results := [.lit (.bool true)], args := [d1, d2, d3] }
  | _ => none }
def topWorkersRow : OpenClaim := { program := "ythmenclkgngkkaa", sum := "f120ae420e1686587533b4a318243f1f304ddfc9b6daea354a9aa3ecb9a90cf9", func := "reticule/reticuletop.TopWorkers", spec := "topWorkers", unfollowed := true, recurses := true, plainKeys := false, apart := false }
def TopWorkersSaid : Prop := topWorkersRow.holds Try.pinned (OpenSpec.ofChange topWorkersSpec)

/-- ITS FALSE NEIGHBOUR: 'it returns false'. Refute it at one input. -/
def topWorkersWrong : ChangeSpec := { name := "topWorkers", fn := fun _ => fun
  | [d1, d2, d3] => { results := [.lit (.bool false)], args := [d1, d2, d3] }
  | _ => none }
def TopWorkersWrongFalsely : Prop := topWorkersRow.holds Try.pinned (OpenSpec.ofChange topWorkersWrong)

/-- 'reticulelaw21.MailOrder': WHATEVER THE INPUT: true; the input reads as it did. -/
def mailOrderSpec : ChangeSpec := { name := "mailOrder", fn := fun _ => fun
  | [d1, d2, d3] => { results := [.lit (.bool true)], args := [d1, d2, d3] }
  | _ => none }
def mailOrderRow : OpenClaim := { program := "ythmenclkgngkkaa", sum := "f120ae420e1686587533b4a318243f1f304ddfc9b6daea354a9aa3ecb9a90cf9", func := "reticule/reticulelaw21.MailOrder", spec := "mailOrder", unfollowed := true, recurses := true, plainKeys := false, apart := false }
def MailOrderSaid : Prop := mailOrderRow.holds Try.pinned (OpenSpec.ofChange mailOrderSpec)

/-- ITS FALSE NEIGHBOUR: 'it returns false'. Refute it at one input. -/
def mailOrderWrong : ChangeSpec := { name := "mailOrder", fn := fun _ => fun
  | [d1, d2, d3] => { results := [.lit (.bool false)], args := [d1, d2, d3] }
  | _ => none }
def MailOrderWrongFalsely : Prop := mailOrderRow.holds Try.pinned (OpenSpec.ofChange mailOrderWrong)

/-- 'reticulelaw21.MailPlays': WHATEVER THE INPUT: true; the input reads as it did. -/
def mailPlaysSpec : ChangeSpec := { name := "mailPlays", fn := fun _ => fun
  | [d1, d2, d3] => { results := [.lit (.bool true)], args := [d1, d2, d3] }
  | _ => none }
def mailPlaysRow : OpenClaim := { program := "ythmenclkgngkkaa", sum := "f120ae420e1686587533b4a318243f1f304ddfc9b6daea354a9aa3ecb9a90cf9", func := "reticule/reticulelaw21.MailPlays", spec := "mailPlays", unfollowed := true, recurses := true, plainKeys := false, apart := false }
def MailPlaysSaid : Prop := mailPlaysRow.holds Try.pinned (OpenSpec.ofChange mailPlaysSpec)

/-- ITS FALSE NEIGHBOUR: 'it returns false'. Refute it at one input. -/
def mailPlaysWrong : ChangeSpec := { name := "mailPlays", fn := fun _ => fun
  | [d1, d2, d3] => { results := [.lit (.bool false)], args := [d1, d2, d3] }
  | _ => none }
def MailPlaysWrongFalsely : Prop := mailPlaysRow.holds Try.pinned (OpenSpec.ofChange mailPlaysWrong)

/-- 'reticulelaw21.MailOnce': WHATEVER THE INPUT: true; the input reads as it did. -/
def mailOnceSpec : ChangeSpec := { name := "mailOnce", fn := fun _ => fun
  | [d1, d2] => { results := [.lit (.bool true)], args := [d1, d2] }
  | _ => none }
def mailOnceRow : OpenClaim := { program := "ythmenclkgngkkaa", sum := "f120ae420e1686587533b4a318243f1f304ddfc9b6daea354a9aa3ecb9a90cf9", func := "reticule/reticulelaw21.MailOnce", spec := "mailOnce", unfollowed := true, recurses := true, plainKeys := false, apart := false }
def MailOnceSaid : Prop := mailOnceRow.holds Try.pinned (OpenSpec.ofChange mailOnceSpec)

/-- ITS FALSE NEIGHBOUR: 'it returns false'. Refute it at one input. -/
def mailOnceWrong : ChangeSpec := { name := "mailOnce", fn := fun _ => fun
  | [d1, d2] => { results := [.lit (.bool false)], args := [d1, d2] }
  | _ => none }
def MailOnceWrongFalsely : Prop := mailOnceRow.holds Try.pinned (OpenSpec.ofChange mailOnceWrong)

/- THE SECOND FORM. 'bulk': how many values and letters a reading holds, each counted each time it is reached (what is shared counts as often as it is met; a slice's spare places count too). A statement '..UptoSaid' is the law's where the arguments, and the package variables that the reading takes, are together of bulk at most 1048576: NARROWER than '..Said'. Prove '..Said' where nothing that the law and all that it calls make is longer than what came in: it says more and counts as full. Else prove '..UptoSaid'. A law counts once. -/
mutual
def uptoBulk {H : Type} : DataW H → Nat
  | .lit (.string bytes) => bytes.length + 1
  | .lit _ => 1
  | .nil => 1
  | .ptr d => uptoBulk d + 1
  | .slice elems spare => uptoBulkAll elems + uptoBulkAll spare + 1
  | .agg parts => uptoBulkAll parts + 1
  | .iface _ d => uptoBulk d + 1
  | .map entries => uptoBulkEntries entries + 1
  | .held _ => 1
def uptoBulkAll {H : Type} : List (DataW H) → Nat
  | [] => 0
  | d :: r => uptoBulk d + uptoBulkAll r
def uptoBulkEntries {H : Type} : List (Lit × DataW H) → Nat
  | [] => 0
  | x :: r => uptoBulkEntry x + uptoBulkEntries r
def uptoBulkEntry {H : Type} : Lit × DataW H → Nat
  | (.string bytes, d) => bytes.length + uptoBulk d + 1
  | (_, d) => uptoBulk d + 1
 end
def uptoSmall : (H : Type) → List (DataW H) → Bool := fun _ ds => decide (uptoBulkAll ds ≤ 1048576)
def OpenSpec.upto (s : _root_.Go.ChangeSpec) : _root_.Go.OpenSpec := { _root_.Go.OpenSpec.ofChange s with cond := some uptoSmall }

/-- 'reticuletop.TopPosted', WHERE WHAT IT READS IS OF BULK AT MOST 1048576: true; the input reads as it did. -/
def topPostedUptoRow : OpenClaim := { program := "ythmenclkgngkkaa", sum := "f120ae420e1686587533b4a318243f1f304ddfc9b6daea354a9aa3ecb9a90cf9", func := "reticule/reticuletop.TopPosted", spec := "topPosted", unfollowed := true, recurses := true, plainKeys := false, apart := false, narrowed := true }
def TopPostedUptoSaid : Prop := topPostedUptoRow.holds Try.pinned (OpenSpec.upto topPostedSpec)

/-- 'reticulelaw21.MailSums', WHERE WHAT IT READS IS OF BULK AT MOST 1048576: true; the input reads as it did. -/
def mailSumsUptoRow : OpenClaim := { program := "ythmenclkgngkkaa", sum := "f120ae420e1686587533b4a318243f1f304ddfc9b6daea354a9aa3ecb9a90cf9", func := "reticule/reticulelaw21.MailSums", spec := "mailSums", unfollowed := true, recurses := true, plainKeys := false, apart := false, narrowed := true }
def MailSumsUptoSaid : Prop := mailSumsUptoRow.holds Try.pinned (OpenSpec.upto mailSumsSpec)

/-- 'reticulelaw21.MailBytes', WHERE WHAT IT READS IS OF BULK AT MOST 1048576: true; the input reads as it did. -/
def mailBytesUptoRow : OpenClaim := { program := "ythmenclkgngkkaa", sum := "f120ae420e1686587533b4a318243f1f304ddfc9b6daea354a9aa3ecb9a90cf9", func := "reticule/reticulelaw21.MailBytes", spec := "mailBytes", unfollowed := true, recurses := true, plainKeys := false, apart := false, narrowed := true }
def MailBytesUptoSaid : Prop := mailBytesUptoRow.holds Try.pinned (OpenSpec.upto mailBytesSpec)

/-- 'reticuletop.TopWorkers', WHERE WHAT IT READS IS OF BULK AT MOST 1048576: true; the input reads as it did. -/
def topWorkersUptoRow : OpenClaim := { program := "ythmenclkgngkkaa", sum := "f120ae420e1686587533b4a318243f1f304ddfc9b6daea354a9aa3ecb9a90cf9", func := "reticule/reticuletop.TopWorkers", spec := "topWorkers", unfollowed := true, recurses := true, plainKeys := false, apart := false, narrowed := true }
def TopWorkersUptoSaid : Prop := topWorkersUptoRow.holds Try.pinned (OpenSpec.upto topWorkersSpec)

/-- 'reticulelaw21.MailOrder', WHERE WHAT IT READS IS OF BULK AT MOST 1048576: true; the input reads as it did. -/
def mailOrderUptoRow : OpenClaim := { program := "ythmenclkgngkkaa", sum := "f120ae420e1686587533b4a318243f1f304ddfc9b6daea354a9aa3ecb9a90cf9", func := "reticule/reticulelaw21.MailOrder", spec := "mailOrder", unfollowed := true, recurses := true, plainKeys := false, apart := false, narrowed := true }
def MailOrderUptoSaid : Prop := mailOrderUptoRow.holds Try.pinned (OpenSpec.upto mailOrderSpec)

/-- 'reticulelaw21.MailPlays', WHERE WHAT IT READS IS OF BULK AT MOST 1048576: true; the input reads as it did. -/
def mailPlaysUptoRow : OpenClaim := { program := "ythmenclkgngkkaa", sum := "f120ae420e1686587533b4a318243f1f304ddfc9b6daea354a9aa3ecb9a90cf9", func := "reticule/reticulelaw21.MailPlays", spec := "mailPlays", unfollowed := true, recurses := true, plainKeys := false, apart := false, narrowed := true }
def MailPlaysUptoSaid : Prop := mailPlaysUptoRow.holds Try.pinned (OpenSpec.upto mailPlaysSpec)

/-- 'reticulelaw21.MailOnce', WHERE WHAT IT READS IS OF BULK AT MOST 1048576: true; the input reads as it did. -/
def mailOnceUptoRow : OpenClaim := { program := "ythmenclkgngkkaa", sum := "f120ae420e1686587533b4a318243f1f304ddfc9b6daea354a9aa3ecb9a90cf9", func := "reticule/reticulelaw21.MailOnce", spec := "mailOnce", unfollowed := true, recurses := true, plainKeys := false, apart := false, narrowed := true }
def MailOnceUptoSaid : Prop := mailOnceUptoRow.holds Try.pinned (OpenSpec.upto mailOnceSpec)

end Rows
end Go.Proofs.Ythmenclkgngkkaa
