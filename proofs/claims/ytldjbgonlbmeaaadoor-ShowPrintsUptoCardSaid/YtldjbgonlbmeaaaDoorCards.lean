/-
  DERIVED. GIVEN WITH THE SEED: THE CARDS: each row of YtldjbgonlbmeaaaDoorRows.lean that lists a variable, with what it lists TIED to the program's text (the seventh form; the later family's looks); each row that meets fmt, with fmt's text TOLD by the authors' own Lean function (tested against real Go, not proved from fmt's source: count such statements apart). THE CARD IS WHAT COUNTS. Prove the row's statement (the work); the ties are given (YtldjbgonlbmeaaaDoorTie.lean); close each card by the builder's one call (the guide's Derived/Test/ToyasCard.lean, 'card_holds'). Laid BY PROGRAM, IN A SANDBOX (cutbox-door.mjs). By AI agents, Wed Nov 11 2026. No macro, syntax, notation, axiom, sorry.
-/
import Derived.Test.YtldjbgonlbmeaaaDoorRows
import GoSem.ClaimSeven
namespace Go.Proofs.YtldjbgonlbmeaaaDoor
namespace Rows

/-- THE TIED CARD OF 'reticulelaw08.ShowPrints'. -/
def showPrintsCard : Claim7 := { stood := { row := showPrintsRow, standIns := [], harness := (true, "59d2e1fd99e07f95b810dfae193be08f0545e4634ced9924e8a3c78342bfdef1"), looks := false }, kinds := [], alts := [], laidByText := true, laidKinds := [.data, .data, .data], laidTests := true, laidLooks := .later }
def ShowPrintsCardSaid : Prop := Claim7.holds Tryd.pinned (.plain (OpenSpec.ofChange showPrintsSpec)) showPrintsCard

/-- THE TIED CARD OF 'reticulelaw08.ShowSame'. -/
def showSameCard : Claim7 := { stood := { row := showSameRow, standIns := [], harness := (true, "59d2e1fd99e07f95b810dfae193be08f0545e4634ced9924e8a3c78342bfdef1"), looks := false }, kinds := [], alts := [], laidByText := true, laidKinds := [.data, .data, .data], laidTests := true, laidLooks := .later }
def ShowSameCardSaid : Prop := Claim7.holds Tryd.pinned (.plain (OpenSpec.ofChange showSameSpec)) showSameCard

/-- THE SECOND FORM's CARD OF 'reticulelaw08.ShowPrints'. -/
def showPrintsUptoCard : Claim7 := { stood := { row := showPrintsUptoRow, standIns := [], harness := (true, "59d2e1fd99e07f95b810dfae193be08f0545e4634ced9924e8a3c78342bfdef1"), looks := false }, kinds := [], alts := [], laidByText := true, laidKinds := [.data, .data, .data], laidTests := true, laidLooks := .later }
def ShowPrintsUptoCardSaid : Prop := Claim7.holds Tryd.pinned (.plain (OpenSpec.upto showPrintsSpec)) showPrintsUptoCard

/-- THE SECOND FORM's CARD OF 'reticulelaw08.ShowSame'. -/
def showSameUptoCard : Claim7 := { stood := { row := showSameUptoRow, standIns := [], harness := (true, "59d2e1fd99e07f95b810dfae193be08f0545e4634ced9924e8a3c78342bfdef1"), looks := false }, kinds := [], alts := [], laidByText := true, laidKinds := [.data, .data, .data], laidTests := true, laidLooks := .later }
def ShowSameUptoCardSaid : Prop := Claim7.holds Tryd.pinned (.plain (OpenSpec.upto showSameSpec)) showSameUptoCard
end Rows
end Go.Proofs.YtldjbgonlbmeaaaDoor
