/- The laid tables of this seat: what the row's list gives, and the witness world that holds them. -/
import Derived.Test.YthnknmkekbledaaDoorCards
import Derived.Test.YthnknmkekbledaaDoorTie
import Derived.WalkKit
import Derived.ProofKit
import Derived.OpenShut
import Derived.Deep.DeepHandedRow
import Derived.Deep.DeepLaidRun
import Derived.Lib.LaidTab
import Derived.Stop.LaidErr
import Derived.Lib.SmallJoins
import Derived.PinnedBridge
import Derived.Test.YthnknmkekbledaaDoorVw3
import Derived.Shelf.Vars
namespace Go.Proofs.YthnknmkekbledaaDoor
open Go.ChangeShapes Go.WideShapes Go.ChangeAt Go.RowKit Go.Joins

theorem own : ownKnob Tryd.prog.godebug = none := by kernel_rfl
theorem laidOut : laidOutB Tryd.prog = true := by kernel_rfl
theorem below_trodAll {H : Type} {enc : TypeId × Value → H} {P : Program} {W W' : World} (hl : laidOutB P = true) (hb : Below W.heap.size W W') :
    ∀ {ts : List TypeId} {vs : List Value} {ds : List (DataW H)} {ps : List MemPlace}, (∀ t ∈ ts, P.readableRec t = true ∧ t < P.types.size) →
    DataW.TrodAll enc P W 0 (fun _ => true) true ts vs ds ps → (∀ x ∈ ps, x.block < W.heap.size) → DataW.TrodAll enc P W' 0 (fun b => decide (b < W.heap.size)) true ts vs ds ps
  | [], [], [], _, _, h, _ => h
  | _ :: _, _ :: _, _ :: _, _, hr, ⟨p, q, h1, h2, e⟩, hs =>
    ⟨p, q, Below.trod hl (hr _ (List.mem_cons.2 (Or.inl rfl))).1 (hr _ (List.mem_cons.2 (Or.inl rfl))).2 h1 hb (fun x hx => hs x (by rw [e]; exact List.mem_append_left _ hx)),
      below_trodAll hl hb (fun t ht => hr t (List.mem_cons.2 (Or.inr ht))) h2 (fun x hx => hs x (by rw [e]; exact List.mem_append_right _ hx)), e⟩
  | [], [], _ :: _, _, _, h, _ => h.elim
  | [], _ :: _, _, _, _, h, _ => by cases h
  | _ :: _, [], _, _, _, h, _ => by cases h
  | _ :: _, _ :: _, [], _, _, h, _ => h.elim
theorem law_post {H : Type} {enc : TypeId × Value → H} {f : Func} {s : ChangeSpec} {W W' : World} {args : Array Value} {ds gs : List (DataW H)} {before : List MemPlace}
    (hr : ∀ t ∈ f.params.toList, Tryd.prog.readableRec t = true ∧ t < Tryd.prog.types.size) (hrt : f.resultTypes = #[4]) (hv : s.vars = [])
    (h1 : (s.fn H (ds ++ gs)).results = [.lit (.bool true)]) (h2 : (s.fn H (ds ++ gs)).args = ds) (h3 : (s.fn H (ds ++ gs)).vars = [])
    (hW : DataW.Whole enc Tryd.prog f.params.toList s.vars false W args.toList ds gs before) (hb : Below W.heap.size W W') : s.post enc Tryd.prog f false true false false W args (.bool true) W' := by
  have hlt := hW.lt
  have hW0 := hW
  obtain ⟨p, q, hA, hV, rfl, _, _⟩ := hW
  refine ⟨ds, gs, p ++ q, [], p, [], hW0, ?_, ?_, ?_, hb.frame _, fun h => by cases h⟩
  · rw [h1, hrt]
    exact ⟨[], [], shut_bool Tryd.underlying4 true, rfl, rfl⟩
  · rw [h2]
    exact below_trodAll laidOut hb hr hA (fun x hx => by simpa using hlt x (List.mem_append_left _ hx))
  · rw [h3, hv]; rfl

theorem gPow : Tryd.prog.globalNamed "internal/strconv.uint64pow10" = some 3 := by kernel_rfl
theorem gPowType : (Tryd.prog.globals[3]?).map (·.type) = some 109 := by kernel_rfl
theorem cellsPow : Tryd.prog.cellsOf 109 = 20 := by kernel_rfl
theorem cellsU64 : Tryd.prog.cellsOf 91 = 1 := by kernel_rfl
theorem pow_data : (Rows.laid_internal_strconv_uint64pow10 : DataW Unit) = Lib.tabData .u64 Lib.pow10Tab := by kernel_rfl
def laidList : List (String × DataW Unit) := [("math/bits.deBruijn32tab", Rows.laid_math_bits_deBruijn32tab), ("math/bits.deBruijn64tab", Rows.laid_math_bits_deBruijn64tab), ("internal/strconv.uint64pow10", Rows.laid_internal_strconv_uint64pow10), ("unicode/utf8.acceptRanges", Rows.laid_unicode_utf8_acceptRanges), ("unicode/utf8.first", Rows.laid_unicode_utf8_first)]
theorem plainList : (laidList.all fun x => x.2.handleName?.isNone) = true := by kernel_rfl
/-- what the row's list gives: the table of the powers of ten -/
theorem tab_of {W : World} (h : laidMetH Tryd.prog laidList W) : Tab W := by
  rw [MakeChecks.laidMetH_plain _ _ _ plainList] at h
  have h3 := (laidMet.tail (laidMet.tail h))
  unfold Tab
  rw [pow_data] at h3
  exact Lib.tabIs_of_head gPow gPowType Tryd.underlying109 Tryd.underlying91 cellsU64 cellsPow h3

/-- Go's own bound holds a number: the settled world's shape -/
theorem mx_of {W : World} (h : W.ShapedOpen Tryd.prog) : Mx W :=
  cell_of_shapedOpen_int (zero := #[.int .i64 0]) (t := 3) h (by decide +kernel) (by kernel_rfl) rfl (by kernel_rfl) (by kernel_rfl) Tryd.underlying3
theorem short_of {H : Type} {d : DataW H} {s : ByteArray} (hk : Rows.uptoSmall H [d, .lit (.string s.data.toList)] = true) : s.size ≤ 2000000 := by
  have h : Rows.uptoBulkAll [d, .lit (.string s.data.toList)] ≤ 1048576 := of_decide_eq_true hk
  simp only [Rows.uptoBulkAll, Rows.uptoBulk] at h
  have e : s.data.toList.length = s.size := by rw [Array.length_toList]; rfl
  omega

/-- the cells of a datum of integers, nested -/
def flat1 : DataW Unit → List Value
  | .lit (.int k n) => [.int k n]
  | _ => []
def flat2 : DataW Unit → List Value
  | .agg l => l.flatMap flat1
  | d => flat1 d
def flat3 : DataW Unit → List Value
  | .agg l => l.flatMap flat2
  | d => flat1 d
def cellsOfD (d : DataW Unit) (o : Obj) : Obj := match o with
  | .cells _ t frozen => .cells (flat3 d).toArray t frozen
  | o => o
def ifaceOf (t : TypeId) (g : Nat) (o : Obj) : Obj := match o with
  | .cells _ u frozen => .cells #[.iface t (.pointer (some ⟨g, 0, none⟩))] u frozen
  | o => o
noncomputable def holdSize (os : Os) : Nat := (World.holding Tryd.prog os ⟨#[], #[], []⟩).heap.size
noncomputable def laidWorld (os : Os) : World :=
  { World.holding Tryd.prog os ⟨#[], #[], []⟩ with heap := ((((((World.holding Tryd.prog os ⟨#[], #[], []⟩).heap.modify 4 (cellsOfD Rows.laid_math_bits_deBruijn32tab)).modify 5 (cellsOfD Rows.laid_math_bits_deBruijn64tab)).modify 3 (cellsOfD Rows.laid_internal_strconv_uint64pow10)).modify 2 (cellsOfD Rows.laid_unicode_utf8_acceptRanges)).modify 1 (cellsOfD Rows.laid_unicode_utf8_first)) }
end Go.Proofs.YthnknmkekbledaaDoor
