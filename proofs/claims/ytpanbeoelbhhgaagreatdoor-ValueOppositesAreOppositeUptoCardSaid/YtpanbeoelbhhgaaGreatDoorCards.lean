/-
  DERIVED. GIVEN WITH THE SEED: THE CARDS: each row of YtpanbeoelbhhgaaGreatDoorRows.lean that lists a variable, with what it lists TIED to the program's text (the seventh form; the later family's looks); each row that meets fmt, with fmt's text TOLD by the authors' own Lean function (tested against real Go, not proved from fmt's source: count such statements apart). THE CARD IS WHAT COUNTS. Prove the row's statement (the work); the ties are given (YtpanbeoelbhhgaaGreatDoorTie.lean); close each card by the builder's one call (the guide's Derived/Test/ToyasCard.lean, 'card_holds'). Laid BY PROGRAM, IN A SANDBOX (cutbox-door.mjs). By AI agents, Wed Nov 11 2026. No macro, syntax, notation, axiom, sorry.
-/
import Derived.Test.YtpanbeoelbhhgaaGreatDoorRows
import GoSem.ClaimSeven
namespace Go.Proofs.YtpanbeoelbhhgaaGreatDoor
namespace Rows

/-- THE TIED CARD OF 'canvasslaw1.ValueOppositesAreOpposite'. -/
def valueOppositesAreOppositeCard : Claim7 := { stood := { row := valueOppositesAreOppositeRow, standIns := [], harness := (true, "2a081a860257367cd4dbb0800b9cc5b4318662e3932b8656af324b2e7ec5b932"), looks := false }, kinds := [], alts := [], laidByText := true, laidKinds := [.data, .data, .data, .data, .pinned], laidTests := true, laidLooks := .later }
def ValueOppositesAreOppositeCardSaid : Prop := Claim7.holds Tryz.pinned (.plain (OpenSpec.ofChange valueOppositesAreOppositeSpec)) valueOppositesAreOppositeCard

/-- THE TIED CARD OF 'canvasslaw1.ValueKindsAreKept'. -/
def valueKindsAreKeptCard : Claim7 := { stood := { row := valueKindsAreKeptRow, standIns := [], harness := (true, "2a081a860257367cd4dbb0800b9cc5b4318662e3932b8656af324b2e7ec5b932"), looks := false }, kinds := [], alts := [], laidByText := true, laidKinds := [.data, .data, .data, .data, .pinned], laidTests := true, laidLooks := .later }
def ValueKindsAreKeptCardSaid : Prop := Claim7.holds Tryz.pinned (.plain (OpenSpec.ofChange valueKindsAreKeptSpec)) valueKindsAreKeptCard

/-- THE TIED CARD OF 'canvasslaw1.ValueEvalsMatchSpec'. -/
def valueEvalsMatchSpecCard : Claim7 := { stood := { row := valueEvalsMatchSpecRow, standIns := [], harness := (true, "2a081a860257367cd4dbb0800b9cc5b4318662e3932b8656af324b2e7ec5b932"), looks := false }, kinds := [], alts := [], laidByText := true, laidKinds := [.data, .data, .data, .data, .listed, .data, .pinned, .pinned], laidTests := true, laidLooks := .later }
def ValueEvalsMatchSpecCardSaid : Prop := Claim7.holds Tryz.pinned (.plain (OpenSpec.ofChange valueEvalsMatchSpecSpec)) valueEvalsMatchSpecCard

/-- THE SECOND FORM's CARD OF 'canvasslaw1.ValueOppositesAreOpposite'. -/
def valueOppositesAreOppositeUptoCard : Claim7 := { stood := { row := valueOppositesAreOppositeUptoRow, standIns := [], harness := (true, "2a081a860257367cd4dbb0800b9cc5b4318662e3932b8656af324b2e7ec5b932"), looks := false }, kinds := [], alts := [], laidByText := true, laidKinds := [.data, .data, .data, .data, .pinned], laidTests := true, laidLooks := .later }
def ValueOppositesAreOppositeUptoCardSaid : Prop := Claim7.holds Tryz.pinned (.plain (OpenSpec.upto valueOppositesAreOppositeSpec)) valueOppositesAreOppositeUptoCard

/-- THE SECOND FORM's CARD OF 'canvasslaw1.ValueKindsAreKept'. -/
def valueKindsAreKeptUptoCard : Claim7 := { stood := { row := valueKindsAreKeptUptoRow, standIns := [], harness := (true, "2a081a860257367cd4dbb0800b9cc5b4318662e3932b8656af324b2e7ec5b932"), looks := false }, kinds := [], alts := [], laidByText := true, laidKinds := [.data, .data, .data, .data, .pinned], laidTests := true, laidLooks := .later }
def ValueKindsAreKeptUptoCardSaid : Prop := Claim7.holds Tryz.pinned (.plain (OpenSpec.upto valueKindsAreKeptSpec)) valueKindsAreKeptUptoCard

/-- THE SECOND FORM's CARD OF 'canvasslaw1.ValueEvalsMatchSpec'. -/
def valueEvalsMatchSpecUptoCard : Claim7 := { stood := { row := valueEvalsMatchSpecUptoRow, standIns := [], harness := (true, "2a081a860257367cd4dbb0800b9cc5b4318662e3932b8656af324b2e7ec5b932"), looks := false }, kinds := [], alts := [], laidByText := true, laidKinds := [.data, .data, .data, .data, .listed, .data, .pinned, .pinned], laidTests := true, laidLooks := .later }
def ValueEvalsMatchSpecUptoCardSaid : Prop := Claim7.holds Tryz.pinned (.plain (OpenSpec.upto valueEvalsMatchSpecSpec)) valueEvalsMatchSpecUptoCard
end Rows
end Go.Proofs.YtpanbeoelbhhgaaGreatDoor
