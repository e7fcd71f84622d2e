/-
  DERIVED. GIVEN WITH THE SEED: THE CARDS: each row of YtdgocbkkdamgeaaDoorRows.lean that lists a variable, with what it lists TIED to the program's text (the seventh form; the later family's looks); each row that meets fmt, with fmt's text TOLD by the authors' own Lean function (tested against real Go, not proved from fmt's source: count such statements apart). THE CARD IS WHAT COUNTS. Prove the row's statement (the work); the ties are given (YtdgocbkkdamgeaaDoorTie.lean); close each card by the builder's one call (the guide's Derived/Test/ToyasCard.lean, 'card_holds'). Laid BY PROGRAM, IN A SANDBOX (cutbox-door.mjs). By AI agents, Wed Nov 11 2026. No macro, syntax, notation, axiom, sorry.
-/
import Derived.Test.YtdgocbkkdamgeaaDoorRows
import GoSem.ClaimSeven
namespace Go.Proofs.YtdgocbkkdamgeaaDoor
namespace Rows

/-- THE TIED CARD OF 'canvasslaw1.ValueRatiosAreAField'. -/
def valueRatiosAreAFieldCard : Claim7 := { stood := { row := valueRatiosAreAFieldRow, standIns := [], harness := (true, "ee73b1abaeac5b80493e785225b2e6c75d13e3ee0bcc75a7d6016f703c295f99"), looks := false }, kinds := [], alts := [], laidByText := true, laidKinds := [.data, .data, .data, .data, .pinned], laidTests := true, laidLooks := .later }
def ValueRatiosAreAFieldCardSaid : Prop := Claim7.holds Tryd.pinned (.plain (OpenSpec.ofChange valueRatiosAreAFieldSpec)) valueRatiosAreAFieldCard

/-- THE TIED CARD OF 'canvasslaw1.ValueTextsComeBack'. -/
def valueTextsComeBackCard : Claim7 := { stood := { row := valueTextsComeBackRow, standIns := [], harness := (true, "ee73b1abaeac5b80493e785225b2e6c75d13e3ee0bcc75a7d6016f703c295f99"), looks := false }, kinds := [], alts := [], laidByText := true, laidKinds := [.data, .data, .data, .data, .pinned], laidTests := true, laidLooks := .later }
def ValueTextsComeBackCardSaid : Prop := Claim7.holds Tryd.pinned (.plain (OpenSpec.ofChange valueTextsComeBackSpec)) valueTextsComeBackCard

/-- THE SECOND FORM's CARD OF 'canvasslaw1.ValueRatiosAreAField'. -/
def valueRatiosAreAFieldUptoCard : Claim7 := { stood := { row := valueRatiosAreAFieldUptoRow, standIns := [], harness := (true, "ee73b1abaeac5b80493e785225b2e6c75d13e3ee0bcc75a7d6016f703c295f99"), looks := false }, kinds := [], alts := [], laidByText := true, laidKinds := [.data, .data, .data, .data, .pinned], laidTests := true, laidLooks := .later }
def ValueRatiosAreAFieldUptoCardSaid : Prop := Claim7.holds Tryd.pinned (.plain (OpenSpec.upto valueRatiosAreAFieldSpec)) valueRatiosAreAFieldUptoCard

/-- THE SECOND FORM's CARD OF 'canvasslaw1.ValueTextsComeBack'. -/
def valueTextsComeBackUptoCard : Claim7 := { stood := { row := valueTextsComeBackUptoRow, standIns := [], harness := (true, "ee73b1abaeac5b80493e785225b2e6c75d13e3ee0bcc75a7d6016f703c295f99"), looks := false }, kinds := [], alts := [], laidByText := true, laidKinds := [.data, .data, .data, .data, .pinned], laidTests := true, laidLooks := .later }
def ValueTextsComeBackUptoCardSaid : Prop := Claim7.holds Tryd.pinned (.plain (OpenSpec.upto valueTextsComeBackSpec)) valueTextsComeBackUptoCard
end Rows
end Go.Proofs.YtdgocbkkdamgeaaDoor
