/-
  DERIVED. GIVEN WITH THE SEED: THE CARDS: each row of YthnknmkekbledaaGreatDoorRows.lean that lists a variable, with what it lists TIED to the program's text (the seventh form; the later family's looks); each row that meets fmt, with fmt's text TOLD by the authors' own Lean function (tested against real Go, not proved from fmt's source: count such statements apart). THE CARD IS WHAT COUNTS. Prove the row's statement (the work); the ties are given (YthnknmkekbledaaGreatDoorTie.lean); close each card by the builder's one call (the guide's Derived/Test/ToyasCard.lean, 'card_holds'). Laid BY PROGRAM, IN A SANDBOX (cutbox-door.mjs). By AI agents, Wed Nov 11 2026. No macro, syntax, notation, axiom, sorry.
-/
import Derived.Test.YthnknmkekbledaaGreatDoorRows
import GoSem.ClaimSeven
namespace Go.Proofs.YthnknmkekbledaaGreatDoor
namespace Rows

/-- THE TIED CARD OF 'canvasslaw1.ValueTextsMatchSpec'. -/
def valueTextsMatchSpecCard : Claim7 := { stood := { row := valueTextsMatchSpecRow, standIns := [], harness := (true, "b055b2f5d1c5888114f1e6041f11ba1d7bc165b12110434043df1b1f17ea4b1f"), looks := true }, kinds := [], alts := [], laidByText := true, laidKinds := [.data, .data, .data, .data, .sentinel, .sentinel, .pinned], laidTests := true, laidLooks := .later }
def ValueTextsMatchSpecCardSaid : Prop := Claim7.holds Tryz.pinned (.plain (OpenSpec.ofChange valueTextsMatchSpecSpec)) valueTextsMatchSpecCard

/-- THE SECOND FORM's CARD OF 'canvasslaw1.ValueTextsMatchSpec'. -/
def valueTextsMatchSpecUptoCard : Claim7 := { stood := { row := valueTextsMatchSpecUptoRow, standIns := [], harness := (true, "b055b2f5d1c5888114f1e6041f11ba1d7bc165b12110434043df1b1f17ea4b1f"), looks := true }, kinds := [], alts := [], laidByText := true, laidKinds := [.data, .data, .data, .data, .sentinel, .sentinel, .pinned], laidTests := true, laidLooks := .later }
def ValueTextsMatchSpecUptoCardSaid : Prop := Claim7.holds Tryz.pinned (.plain (OpenSpec.upto valueTextsMatchSpecSpec)) valueTextsMatchSpecUptoCard
end Rows
end Go.Proofs.YthnknmkekbledaaGreatDoor
