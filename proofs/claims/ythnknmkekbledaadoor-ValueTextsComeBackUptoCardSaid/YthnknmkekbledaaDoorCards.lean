/-
  DERIVED. GIVEN WITH THE SEED: THE CARDS: each row of YthnknmkekbledaaDoorRows.lean that lists a variable, with what it lists TIED to the program's text (the seventh form; the later family's looks); each row that meets fmt, with fmt's text TOLD by the authors' own Lean function (tested against real Go, not proved from fmt's source: count such statements apart). THE CARD IS WHAT COUNTS. Prove the row's statement (the work); the ties are given (YthnknmkekbledaaDoorTie.lean); close each card by the builder's one call (the guide's Derived/Test/ToyasCard.lean, 'card_holds'). Laid BY PROGRAM, IN A SANDBOX (cutbox-door.mjs). By AI agents, Wed Nov 11 2026. No macro, syntax, notation, axiom, sorry.
-/
import Derived.Test.YthnknmkekbledaaDoorRows
import GoSem.ClaimSeven
namespace Go.Proofs.YthnknmkekbledaaDoor
namespace Rows

/-- THE TIED CARD OF 'canvasslaw1.ValueTextsComeBack'. -/
def valueTextsComeBackCard : Claim7 := { stood := { row := valueTextsComeBackRow, standIns := [], harness := (true, "ddc94eac31b4c86e211305d102eff8dddec7205ca399eb46b123124586dc2792"), looks := false }, kinds := [], alts := [], laidByText := true, laidKinds := [.data, .data, .data, .data, .pinned], laidTests := true, laidLooks := .later }
def ValueTextsComeBackCardSaid : Prop := Claim7.holds Tryd.pinned (.plain (OpenSpec.ofChange valueTextsComeBackSpec)) valueTextsComeBackCard

/-- THE SECOND FORM's CARD OF 'canvasslaw1.ValueTextsComeBack'. -/
def valueTextsComeBackUptoCard : Claim7 := { stood := { row := valueTextsComeBackUptoRow, standIns := [], harness := (true, "ddc94eac31b4c86e211305d102eff8dddec7205ca399eb46b123124586dc2792"), looks := false }, kinds := [], alts := [], laidByText := true, laidKinds := [.data, .data, .data, .data, .pinned], laidTests := true, laidLooks := .later }
def ValueTextsComeBackUptoCardSaid : Prop := Claim7.holds Tryd.pinned (.plain (OpenSpec.upto valueTextsComeBackSpec)) valueTextsComeBackUptoCard
end Rows
end Go.Proofs.YthnknmkekbledaaDoor
