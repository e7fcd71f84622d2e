/-
  DERIVED. GIVEN WITH THE SEED: THE CARDS: each row of YtcmccjcelchlhaaGreatDoorRows.lean that lists a variable, with what it lists TIED to the program's text (the seventh form; the later family's looks); each row that meets fmt, with fmt's text TOLD by the authors' own Lean function (tested against real Go, not proved from fmt's source: count such statements apart). THE CARD IS WHAT COUNTS. Prove the row's statement (the work); the ties are given (YtcmccjcelchlhaaGreatDoorTie.lean); close each card by the builder's one call (the guide's Derived/Test/ToyasCard.lean, 'card_holds'). Laid BY PROGRAM, IN A SANDBOX (cutbox-door.mjs). By AI agents, Wed Nov 11 2026. No macro, syntax, notation, axiom, sorry.
-/
import Derived.Test.YtcmccjcelchlhaaGreatDoorRows
import GoSem.ClaimSeven
namespace Go.Proofs.YtcmccjcelchlhaaGreatDoor
namespace Rows

/-- THE TIED CARD OF 'canvasslaw1.ValueTypesMatchSpec'. -/
def valueTypesMatchSpecCard : Claim7 := { stood := { row := valueTypesMatchSpecRow, standIns := [], harness := (true, "3894f24250611c1d9da538af1c5751773c11ba4c7d1a746edb50969aff48e7b4"), looks := false }, kinds := [], alts := [], laidByText := true, laidKinds := [.data, .data, .data, .listed, .data], laidTests := true, laidLooks := .later }
def ValueTypesMatchSpecCardSaid : Prop := Claim7.holds Tryz.pinned (.plain (OpenSpec.ofChange valueTypesMatchSpecSpec)) valueTypesMatchSpecCard

/-- THE TIED CARD OF 'canvasslaw1.ValueFormsMatchSpec'. -/
def valueFormsMatchSpecCard : Claim7 := { stood := { row := valueFormsMatchSpecRow, standIns := [], harness := (true, "3894f24250611c1d9da538af1c5751773c11ba4c7d1a746edb50969aff48e7b4"), looks := false }, kinds := [], alts := [], laidByText := true, laidKinds := [.data, .data, .data, .data, .listed, .data, .pinned], laidTests := true, laidLooks := .later }
def ValueFormsMatchSpecCardSaid : Prop := Claim7.holds Tryz.pinned (.plain (OpenSpec.ofChange valueFormsMatchSpecSpec)) valueFormsMatchSpecCard

/-- THE SECOND FORM's CARD OF 'canvasslaw1.ValueTypesMatchSpec'. -/
def valueTypesMatchSpecUptoCard : Claim7 := { stood := { row := valueTypesMatchSpecUptoRow, standIns := [], harness := (true, "3894f24250611c1d9da538af1c5751773c11ba4c7d1a746edb50969aff48e7b4"), looks := false }, kinds := [], alts := [], laidByText := true, laidKinds := [.data, .data, .data, .listed, .data], laidTests := true, laidLooks := .later }
def ValueTypesMatchSpecUptoCardSaid : Prop := Claim7.holds Tryz.pinned (.plain (OpenSpec.upto valueTypesMatchSpecSpec)) valueTypesMatchSpecUptoCard

/-- THE SECOND FORM's CARD OF 'canvasslaw1.ValueFormsMatchSpec'. -/
def valueFormsMatchSpecUptoCard : Claim7 := { stood := { row := valueFormsMatchSpecUptoRow, standIns := [], harness := (true, "3894f24250611c1d9da538af1c5751773c11ba4c7d1a746edb50969aff48e7b4"), looks := false }, kinds := [], alts := [], laidByText := true, laidKinds := [.data, .data, .data, .data, .listed, .data, .pinned], laidTests := true, laidLooks := .later }
def ValueFormsMatchSpecUptoCardSaid : Prop := Claim7.holds Tryz.pinned (.plain (OpenSpec.upto valueFormsMatchSpecSpec)) valueFormsMatchSpecUptoCard
end Rows
end Go.Proofs.YtcmccjcelchlhaaGreatDoor
