/-
  No cell of these rows narrows 'for every input' (looked for: loops, veiled, ifaces, maps, wideKeys, modest, calm, conditions, laid).
  DERIVED. THE GIVEN ROWS OF THIS SEAT. 6 by the template 'for every input the law returns true; each argument reads behind the call as it read before'; 0 by the template 'total and deterministic' (their statements: YtfkgodgjchbbpaaTotals.lean).
  GIVEN WITH THE SEED: the statements are not yours to turn. If you find one false, say at which input.
  Laid BY PROGRAM, IN A SANDBOX (cutbox-rows.mjs): the forced cells as the released guide's own fill.sh prints them over the translation fe2978257d3a1eef… (all of the seat's roots in one cut). By AI agents, Wed Nov 11 2026. No macro, syntax, notation, axiom, sorry.
-/
import Derived.Test.YtfkgodgjchbbpaaChecked
import GoSem.Claim
import GoSem.ClaimJoined
import GoSem.ClaimMapViews
import Derived.JoinedTies
import Derived.KernelRfl
namespace Go.Proofs.Ytfkgodgjchbbpaa
/- THE CELL 'sum', in the pinned program and in every row, IS THE sha256 OF THE DUMP (.gsa) THAT YtfkgodgjchbbpaaProg.lean LOADS. Nothing in Lean hashes anything: it is a label: what it is worth is what the hold of that sum in a sandbox is worth. -/
noncomputable def Try.pinned : Pinned := { name := "ytfkgodgjchbbpaa", sum := "fe2978257d3a1eef4911cfa583f5320417112c24edfac1868df94d8f0e5b4d85", checked := Try.checked }
namespace Rows
def none {H : Type} : Left H := { results := [], args := [] }

/-- 'canvasslaw1.ValueOrderIsTotal': WHATEVER THE INPUT: true; the input reads as it did. -/
def valueOrderIsTotalSpec : ChangeSpec := { name := "valueOrderIsTotal", fn := fun _ => fun
  | [d1, d2, d3] => { results := [.lit (.bool true)], args := [d1, d2, d3] }
  | _ => none }
def valueOrderIsTotalRow : OpenClaim := { program := "ytfkgodgjchbbpaa", sum := "fe2978257d3a1eef4911cfa583f5320417112c24edfac1868df94d8f0e5b4d85", func := "canvass/canvasslaw1.ValueOrderIsTotal", spec := "valueOrderIsTotal", inPlace := ["internal/bytealg.abigen_runtime_cmpstring"], apart := false }
def ValueOrderIsTotalSaid : Prop := valueOrderIsTotalRow.holds Try.pinned (OpenSpec.ofChange valueOrderIsTotalSpec)

/-- ITS FALSE NEIGHBOUR: 'it returns false'. Refute it at one input. -/
def valueOrderIsTotalWrong : ChangeSpec := { name := "valueOrderIsTotal", fn := fun _ => fun
  | [d1, d2, d3] => { results := [.lit (.bool false)], args := [d1, d2, d3] }
  | _ => none }
def ValueOrderIsTotalWrongFalsely : Prop := valueOrderIsTotalRow.holds Try.pinned (OpenSpec.ofChange valueOrderIsTotalWrong)

/-- 'canvasslaw1.ValueChanceMatchesSpec': WHATEVER THE INPUT: true; the input reads as it did. -/
def valueChanceMatchesSpecSpec : ChangeSpec := { name := "valueChanceMatchesSpec", fn := fun _ => fun
  | [d1, d2] => { results := [.lit (.bool true)], args := [d1, d2] }
  | _ => none }
def valueChanceMatchesSpecRow : OpenClaim := { program := "ytfkgodgjchbbpaa", sum := "fe2978257d3a1eef4911cfa583f5320417112c24edfac1868df94d8f0e5b4d85", func := "canvass/canvasslaw1.ValueChanceMatchesSpec", spec := "valueChanceMatchesSpec", unfollowed := true, recurses := true, apart := false }
def ValueChanceMatchesSpecSaid : Prop := valueChanceMatchesSpecRow.holds Try.pinned (OpenSpec.ofChange valueChanceMatchesSpecSpec)

/-- ITS FALSE NEIGHBOUR: 'it returns false'. Refute it at one input. -/
def valueChanceMatchesSpecWrong : ChangeSpec := { name := "valueChanceMatchesSpec", fn := fun _ => fun
  | [d1, d2] => { results := [.lit (.bool false)], args := [d1, d2] }
  | _ => none }
def ValueChanceMatchesSpecWrongFalsely : Prop := valueChanceMatchesSpecRow.holds Try.pinned (OpenSpec.ofChange valueChanceMatchesSpecWrong)

/-- 'canvasslaw1.ValueShufflesArePermutations': WHATEVER THE INPUT: true; the input reads as it did. -/
def valueShufflesArePermutationsSpec : ChangeSpec := { name := "valueShufflesArePermutations", fn := fun _ => fun
  | [d1, d2] => { results := [.lit (.bool true)], args := [d1, d2] }
  | _ => none }
def valueShufflesArePermutationsRow : OpenClaim := { program := "ytfkgodgjchbbpaa", sum := "fe2978257d3a1eef4911cfa583f5320417112c24edfac1868df94d8f0e5b4d85", func := "canvass/canvasslaw1.ValueShufflesArePermutations", spec := "valueShufflesArePermutations", unfollowed := true, recurses := true, apart := false }
def ValueShufflesArePermutationsSaid : Prop := valueShufflesArePermutationsRow.holds Try.pinned (OpenSpec.ofChange valueShufflesArePermutationsSpec)

/-- ITS FALSE NEIGHBOUR: 'it returns false'. Refute it at one input. -/
def valueShufflesArePermutationsWrong : ChangeSpec := { name := "valueShufflesArePermutations", fn := fun _ => fun
  | [d1, d2] => { results := [.lit (.bool false)], args := [d1, d2] }
  | _ => none }
def ValueShufflesArePermutationsWrongFalsely : Prop := valueShufflesArePermutationsRow.holds Try.pinned (OpenSpec.ofChange valueShufflesArePermutationsWrong)

/-- 'canvasslaw1.ValueDaysAreACalendar': WHATEVER THE INPUT: true; the input reads as it did. -/
def valueDaysAreACalendarSpec : ChangeSpec := { name := "valueDaysAreACalendar", fn := fun _ => fun
  | [d] => { results := [.lit (.bool true)], args := [d] }
  | _ => none }
def valueDaysAreACalendarRow : OpenClaim := { program := "ytfkgodgjchbbpaa", sum := "fe2978257d3a1eef4911cfa583f5320417112c24edfac1868df94d8f0e5b4d85", func := "canvass/canvasslaw1.ValueDaysAreACalendar", spec := "valueDaysAreACalendar", apart := false }
def ValueDaysAreACalendarSaid : Prop := valueDaysAreACalendarRow.holds Try.pinned (OpenSpec.ofChange valueDaysAreACalendarSpec)

/-- ITS FALSE NEIGHBOUR: 'it returns false'. Refute it at one input. -/
def valueDaysAreACalendarWrong : ChangeSpec := { name := "valueDaysAreACalendar", fn := fun _ => fun
  | [d] => { results := [.lit (.bool false)], args := [d] }
  | _ => none }
def ValueDaysAreACalendarWrongFalsely : Prop := valueDaysAreACalendarRow.holds Try.pinned (OpenSpec.ofChange valueDaysAreACalendarWrong)

/-- 'canvasslaw1.ValueDaysMatchSpec': WHATEVER THE INPUT: true; the input reads as it did. -/
def valueDaysMatchSpecSpec : ChangeSpec := { name := "valueDaysMatchSpec", fn := fun _ => fun
  | [d1, d2, d3, d4, d5] => { results := [.lit (.bool true)], args := [d1, d2, d3, d4, d5] }
  | _ => none }
def valueDaysMatchSpecRow : OpenClaim := { program := "ytfkgodgjchbbpaa", sum := "fe2978257d3a1eef4911cfa583f5320417112c24edfac1868df94d8f0e5b4d85", func := "canvass/canvasslaw1.ValueDaysMatchSpec", spec := "valueDaysMatchSpec", apart := false }
def ValueDaysMatchSpecSaid : Prop := valueDaysMatchSpecRow.holds Try.pinned (OpenSpec.ofChange valueDaysMatchSpecSpec)

/-- ITS FALSE NEIGHBOUR: 'it returns false'. Refute it at one input. -/
def valueDaysMatchSpecWrong : ChangeSpec := { name := "valueDaysMatchSpec", fn := fun _ => fun
  | [d1, d2, d3, d4, d5] => { results := [.lit (.bool false)], args := [d1, d2, d3, d4, d5] }
  | _ => none }
def ValueDaysMatchSpecWrongFalsely : Prop := valueDaysMatchSpecRow.holds Try.pinned (OpenSpec.ofChange valueDaysMatchSpecWrong)

/-- 'canvasslaw1.ValueChecksMatchSpec': WHATEVER THE INPUT: true; the input reads as it did. -/
def valueChecksMatchSpecSpec : ChangeSpec := { name := "valueChecksMatchSpec", fn := fun _ => fun
  | [d1, d2] => { results := [.lit (.bool true)], args := [d1, d2] }
  | _ => none }
def valueChecksMatchSpecRow : OpenClaim := { program := "ytfkgodgjchbbpaa", sum := "fe2978257d3a1eef4911cfa583f5320417112c24edfac1868df94d8f0e5b4d85", func := "canvass/canvasslaw1.ValueChecksMatchSpec", spec := "valueChecksMatchSpec", inPlace := ["internal/bytealg.abigen_runtime_cmpstring"], apart := false }
def ValueChecksMatchSpecSaid : Prop := valueChecksMatchSpecRow.holds Try.pinned (OpenSpec.ofChange valueChecksMatchSpecSpec)

/-- ITS FALSE NEIGHBOUR: 'it returns false'. Refute it at one input. -/
def valueChecksMatchSpecWrong : ChangeSpec := { name := "valueChecksMatchSpec", fn := fun _ => fun
  | [d1, d2] => { results := [.lit (.bool false)], args := [d1, d2] }
  | _ => none }
def ValueChecksMatchSpecWrongFalsely : Prop := valueChecksMatchSpecRow.holds Try.pinned (OpenSpec.ofChange valueChecksMatchSpecWrong)

/- THE SECOND FORM. 'bulk': how many values and letters a reading holds, each counted each time it is reached (what is shared counts as often as it is met; a slice's spare places count too). A statement '..UptoSaid' is the law's where the arguments, and the package variables that the reading takes, are together of bulk at most 1048576: NARROWER than '..Said'. Prove '..Said' where nothing that the law and all that it calls make is longer than what came in: it says more and counts as full. Else prove '..UptoSaid'. A law counts once. -/
mutual
def uptoBulk {H : Type} : DataW H → Nat
  | .lit (.string bytes) => bytes.length + 1
  | .lit _ => 1
  | .nil => 1
  | .ptr d => uptoBulk d + 1
  | .slice elems spare => uptoBulkAll elems + uptoBulkAll spare + 1
  | .agg parts => uptoBulkAll parts + 1
  | .iface _ d => uptoBulk d + 1
  | .map entries => uptoBulkEntries entries + 1
  | .held _ => 1
def uptoBulkAll {H : Type} : List (DataW H) → Nat
  | [] => 0
  | d :: r => uptoBulk d + uptoBulkAll r
def uptoBulkEntries {H : Type} : List (Lit × DataW H) → Nat
  | [] => 0
  | x :: r => uptoBulkEntry x + uptoBulkEntries r
def uptoBulkEntry {H : Type} : Lit × DataW H → Nat
  | (.string bytes, d) => bytes.length + uptoBulk d + 1
  | (_, d) => uptoBulk d + 1
 end
def uptoSmall : (H : Type) → List (DataW H) → Bool := fun _ ds => decide (uptoBulkAll ds ≤ 1048576)
def OpenSpec.upto (s : _root_.Go.ChangeSpec) : _root_.Go.OpenSpec := { _root_.Go.OpenSpec.ofChange s with cond := some uptoSmall }

/-- 'canvasslaw1.ValueOrderIsTotal', WHERE WHAT IT READS IS OF BULK AT MOST 1048576: true; the input reads as it did. -/
def valueOrderIsTotalUptoRow : OpenClaim := { program := "ytfkgodgjchbbpaa", sum := "fe2978257d3a1eef4911cfa583f5320417112c24edfac1868df94d8f0e5b4d85", func := "canvass/canvasslaw1.ValueOrderIsTotal", spec := "valueOrderIsTotal", inPlace := ["internal/bytealg.abigen_runtime_cmpstring"], apart := false, narrowed := true }
def ValueOrderIsTotalUptoSaid : Prop := valueOrderIsTotalUptoRow.holds Try.pinned (OpenSpec.upto valueOrderIsTotalSpec)

/-- 'canvasslaw1.ValueChanceMatchesSpec', WHERE WHAT IT READS IS OF BULK AT MOST 1048576: true; the input reads as it did. -/
def valueChanceMatchesSpecUptoRow : OpenClaim := { program := "ytfkgodgjchbbpaa", sum := "fe2978257d3a1eef4911cfa583f5320417112c24edfac1868df94d8f0e5b4d85", func := "canvass/canvasslaw1.ValueChanceMatchesSpec", spec := "valueChanceMatchesSpec", unfollowed := true, recurses := true, apart := false, narrowed := true }
def ValueChanceMatchesSpecUptoSaid : Prop := valueChanceMatchesSpecUptoRow.holds Try.pinned (OpenSpec.upto valueChanceMatchesSpecSpec)

/-- 'canvasslaw1.ValueShufflesArePermutations', WHERE WHAT IT READS IS OF BULK AT MOST 1048576: true; the input reads as it did. -/
def valueShufflesArePermutationsUptoRow : OpenClaim := { program := "ytfkgodgjchbbpaa", sum := "fe2978257d3a1eef4911cfa583f5320417112c24edfac1868df94d8f0e5b4d85", func := "canvass/canvasslaw1.ValueShufflesArePermutations", spec := "valueShufflesArePermutations", unfollowed := true, recurses := true, apart := false, narrowed := true }
def ValueShufflesArePermutationsUptoSaid : Prop := valueShufflesArePermutationsUptoRow.holds Try.pinned (OpenSpec.upto valueShufflesArePermutationsSpec)

/-- 'canvasslaw1.ValueDaysAreACalendar', WHERE WHAT IT READS IS OF BULK AT MOST 1048576: true; the input reads as it did. -/
def valueDaysAreACalendarUptoRow : OpenClaim := { program := "ytfkgodgjchbbpaa", sum := "fe2978257d3a1eef4911cfa583f5320417112c24edfac1868df94d8f0e5b4d85", func := "canvass/canvasslaw1.ValueDaysAreACalendar", spec := "valueDaysAreACalendar", apart := false, narrowed := true }
def ValueDaysAreACalendarUptoSaid : Prop := valueDaysAreACalendarUptoRow.holds Try.pinned (OpenSpec.upto valueDaysAreACalendarSpec)

/-- 'canvasslaw1.ValueDaysMatchSpec', WHERE WHAT IT READS IS OF BULK AT MOST 1048576: true; the input reads as it did. -/
def valueDaysMatchSpecUptoRow : OpenClaim := { program := "ytfkgodgjchbbpaa", sum := "fe2978257d3a1eef4911cfa583f5320417112c24edfac1868df94d8f0e5b4d85", func := "canvass/canvasslaw1.ValueDaysMatchSpec", spec := "valueDaysMatchSpec", apart := false, narrowed := true }
def ValueDaysMatchSpecUptoSaid : Prop := valueDaysMatchSpecUptoRow.holds Try.pinned (OpenSpec.upto valueDaysMatchSpecSpec)

/-- 'canvasslaw1.ValueChecksMatchSpec', WHERE WHAT IT READS IS OF BULK AT MOST 1048576: true; the input reads as it did. -/
def valueChecksMatchSpecUptoRow : OpenClaim := { program := "ytfkgodgjchbbpaa", sum := "fe2978257d3a1eef4911cfa583f5320417112c24edfac1868df94d8f0e5b4d85", func := "canvass/canvasslaw1.ValueChecksMatchSpec", spec := "valueChecksMatchSpec", inPlace := ["internal/bytealg.abigen_runtime_cmpstring"], apart := false, narrowed := true }
def ValueChecksMatchSpecUptoSaid : Prop := valueChecksMatchSpecUptoRow.holds Try.pinned (OpenSpec.upto valueChecksMatchSpecSpec)

end Rows
end Go.Proofs.Ytfkgodgjchbbpaa
