/-
  DERIVED. GIVEN WITH THE SEED: THE CARDS: each row of YtobanldeicclmaaGreatDoorRows.lean that lists a variable, with what it lists TIED to the program's text (the seventh form; the later family's looks); each row that meets fmt, with fmt's text TOLD by the authors' own Lean function (tested against real Go, not proved from fmt's source: count such statements apart). THE CARD IS WHAT COUNTS. Prove the row's statement (the work); the ties are given (YtobanldeicclmaaGreatDoorTie.lean); close each card by the builder's one call (the guide's Derived/Test/ToyasCard.lean, 'card_holds'). Laid BY PROGRAM, IN A SANDBOX (cutbox-door.mjs). By AI agents, Wed Nov 11 2026. No macro, syntax, notation, axiom, sorry.
-/
import Derived.Test.YtobanldeicclmaaGreatDoorRows
import GoSem.ClaimSeven
namespace Go.Proofs.YtobanldeicclmaaGreatDoor
namespace Rows

/-- THE TIED CARD OF 'canvasslaw1.ValuePrintsComeBack'. -/
def valuePrintsComeBackCard : Claim7 := { stood := { row := valuePrintsComeBackRow, standIns := [], harness := (true, "20e8942f0262f4c7de37b3d48cb86113ef45817202c3d99a0c1940d0910279d3"), looks := true }, kinds := [], alts := [], laidByText := true, laidKinds := [.data, .data, .data, .data, .pinned], laidTests := true, laidLooks := .later }
def ValuePrintsComeBackCardSaid : Prop := Claim7.holds Tryz.pinned (.plain (OpenSpec.ofChange valuePrintsComeBackSpec)) valuePrintsComeBackCard

/-- THE TIED CARD OF 'canvasslaw1.ValueParsesMatchSpec'. -/
def valueParsesMatchSpecCard : Claim7 := { stood := { row := valueParsesMatchSpecRow, standIns := [], harness := (true, "20e8942f0262f4c7de37b3d48cb86113ef45817202c3d99a0c1940d0910279d3"), looks := true }, kinds := [], alts := [], laidByText := true, laidKinds := [.data, .data, .data, .data, .sentinel, .sentinel, .listed, .data, .pinned], laidTests := true, laidLooks := .later }
def ValueParsesMatchSpecCardSaid : Prop := Claim7.holds Tryz.pinned (.plain (OpenSpec.ofChange valueParsesMatchSpecSpec)) valueParsesMatchSpecCard

/-- THE SECOND FORM's CARD OF 'canvasslaw1.ValuePrintsComeBack'. -/
def valuePrintsComeBackUptoCard : Claim7 := { stood := { row := valuePrintsComeBackUptoRow, standIns := [], harness := (true, "20e8942f0262f4c7de37b3d48cb86113ef45817202c3d99a0c1940d0910279d3"), looks := true }, kinds := [], alts := [], laidByText := true, laidKinds := [.data, .data, .data, .data, .pinned], laidTests := true, laidLooks := .later }
def ValuePrintsComeBackUptoCardSaid : Prop := Claim7.holds Tryz.pinned (.plain (OpenSpec.upto valuePrintsComeBackSpec)) valuePrintsComeBackUptoCard

/-- THE SECOND FORM's CARD OF 'canvasslaw1.ValueParsesMatchSpec'. -/
def valueParsesMatchSpecUptoCard : Claim7 := { stood := { row := valueParsesMatchSpecUptoRow, standIns := [], harness := (true, "20e8942f0262f4c7de37b3d48cb86113ef45817202c3d99a0c1940d0910279d3"), looks := true }, kinds := [], alts := [], laidByText := true, laidKinds := [.data, .data, .data, .data, .sentinel, .sentinel, .listed, .data, .pinned], laidTests := true, laidLooks := .later }
def ValueParsesMatchSpecUptoCardSaid : Prop := Claim7.holds Tryz.pinned (.plain (OpenSpec.upto valueParsesMatchSpecSpec)) valueParsesMatchSpecUptoCard
end Rows
end Go.Proofs.YtobanldeicclmaaGreatDoor
