/-
  DERIVED. GIVEN WITH THE SEED: THE CARDS: each row of YtcnagconagpkcaaGreatDoorRows.lean that lists a variable, with what it lists TIED to the program's text (the seventh form; the later family's looks); each row that meets fmt, with fmt's text TOLD by the authors' own Lean function (tested against real Go, not proved from fmt's source: count such statements apart). THE CARD IS WHAT COUNTS. Prove the row's statement (the work); the ties are given (YtcnagconagpkcaaGreatDoorTie.lean); close each card by the builder's one call (the guide's Derived/Test/ToyasCard.lean, 'card_holds'). Laid BY PROGRAM, IN A SANDBOX (cutbox-door.mjs). By AI agents, Wed Nov 11 2026. No macro, syntax, notation, axiom, sorry.
-/
import Derived.Test.YtcnagconagpkcaaGreatDoorRows
import GoSem.ClaimSeven
namespace Go.Proofs.YtcnagconagpkcaaGreatDoor
namespace Rows

/-- THE TIED CARD OF 'canvasslaw2.FormTranslationsComeBack'. -/
def formTranslationsComeBackCard : Claim7 := { stood := { row := formTranslationsComeBackRow, standIns := [], harness := (true, "8712d393af9d2f489b1dbbd9b1a82680e7a459a582cafc4f52a31195da5c6ae9"), looks := true }, kinds := [], alts := [], laidByText := true, laidKinds := [.data, .data, .data, .data, .pinned], laidTests := true, laidLooks := .later }
def FormTranslationsComeBackCardSaid : Prop := Claim7.holds Tryz.pinned (.plain (OpenSpec.ofChange formTranslationsComeBackSpec)) formTranslationsComeBackCard

/-- THE TIED CARD OF 'canvasslaw2.FormBlanksAreScenes'. -/
def formBlanksAreScenesCard : Claim7 := { stood := { row := formBlanksAreScenesRow, standIns := [], harness := (true, "8712d393af9d2f489b1dbbd9b1a82680e7a459a582cafc4f52a31195da5c6ae9"), looks := true }, kinds := [], alts := [], laidByText := true, laidKinds := [.data, .data, .data, .data, .listed, .data, .pinned], laidTests := true, laidLooks := .later }
def FormBlanksAreScenesCardSaid : Prop := Claim7.holds Tryz.pinned (.plain (OpenSpec.ofChange formBlanksAreScenesSpec)) formBlanksAreScenesCard

/-- THE TIED CARD OF 'canvasslaw2.FormDifferencesTellAll'. -/
def formDifferencesTellAllCard : Claim7 := { stood := { row := formDifferencesTellAllRow, standIns := [], harness := (true, "8712d393af9d2f489b1dbbd9b1a82680e7a459a582cafc4f52a31195da5c6ae9"), looks := true }, kinds := [], alts := [], laidByText := true, laidKinds := [.data, .data, .data, .data, .pinned], laidTests := true, laidLooks := .later }
def FormDifferencesTellAllCardSaid : Prop := Claim7.holds Tryz.pinned (.plain (OpenSpec.ofChange formDifferencesTellAllSpec)) formDifferencesTellAllCard

/-- THE SECOND FORM's CARD OF 'canvasslaw2.FormTranslationsComeBack'. -/
def formTranslationsComeBackUptoCard : Claim7 := { stood := { row := formTranslationsComeBackUptoRow, standIns := [], harness := (true, "8712d393af9d2f489b1dbbd9b1a82680e7a459a582cafc4f52a31195da5c6ae9"), looks := true }, kinds := [], alts := [], laidByText := true, laidKinds := [.data, .data, .data, .data, .pinned], laidTests := true, laidLooks := .later }
def FormTranslationsComeBackUptoCardSaid : Prop := Claim7.holds Tryz.pinned (.plain (OpenSpec.upto formTranslationsComeBackSpec)) formTranslationsComeBackUptoCard

/-- THE SECOND FORM's CARD OF 'canvasslaw2.FormBlanksAreScenes'. -/
def formBlanksAreScenesUptoCard : Claim7 := { stood := { row := formBlanksAreScenesUptoRow, standIns := [], harness := (true, "8712d393af9d2f489b1dbbd9b1a82680e7a459a582cafc4f52a31195da5c6ae9"), looks := true }, kinds := [], alts := [], laidByText := true, laidKinds := [.data, .data, .data, .data, .listed, .data, .pinned], laidTests := true, laidLooks := .later }
def FormBlanksAreScenesUptoCardSaid : Prop := Claim7.holds Tryz.pinned (.plain (OpenSpec.upto formBlanksAreScenesSpec)) formBlanksAreScenesUptoCard

/-- THE SECOND FORM's CARD OF 'canvasslaw2.FormDifferencesTellAll'. -/
def formDifferencesTellAllUptoCard : Claim7 := { stood := { row := formDifferencesTellAllUptoRow, standIns := [], harness := (true, "8712d393af9d2f489b1dbbd9b1a82680e7a459a582cafc4f52a31195da5c6ae9"), looks := true }, kinds := [], alts := [], laidByText := true, laidKinds := [.data, .data, .data, .data, .pinned], laidTests := true, laidLooks := .later }
def FormDifferencesTellAllUptoCardSaid : Prop := Claim7.holds Tryz.pinned (.plain (OpenSpec.upto formDifferencesTellAllSpec)) formDifferencesTellAllUptoCard
end Rows
end Go.Proofs.YtcnagconagpkcaaGreatDoor
