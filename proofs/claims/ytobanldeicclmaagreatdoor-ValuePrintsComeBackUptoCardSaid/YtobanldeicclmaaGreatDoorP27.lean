/- Arguments opened out of their readings: expressions, scenes, texts; their bulk bounds their parts. · The laid tables of this seat: what the row's list gives, and the witness world that holds them. -/
import Derived.Test.YtobanldeicclmaaGreatDoorP26
import Derived.Test.YtobanldeicclmaaGreatDoorRows
import Derived.ProofKit
import Derived.SliceStrings
import Derived.ChangeSlices
import Derived.Deep.Slices
import Derived.Lib.SmallJoins
import Derived.Test.YtobanldeicclmaaGreatDoorCards
import Derived.Test.YtobanldeicclmaaGreatDoorTie
import Derived.WalkKit
import Derived.OpenShut
import Derived.Deep.DeepHandedRow
import Derived.Deep.DeepLaidRun
import Derived.Lib.LaidTab
import Derived.Stop.LaidErr
import Derived.PinnedBridge
import Derived.Shelf.Vars
namespace Go.Proofs.YtobanldeicclmaaGreatDoor
open Go.Deep Go.ChangeShapes Go.WideShapes Go.ChangeAt Go.RowKit Go.Joins
theorem bulk_pos {H : Type} (d : DataW H) : 1 ≤ Rows.uptoBulk d := by
  cases d with
  | lit l => cases l <;> simp [Rows.uptoBulk]
  | nil => simp [Rows.uptoBulk]
  | ptr d => simp [Rows.uptoBulk]
  | slice a b => simp [Rows.uptoBulk]
  | agg l => simp [Rows.uptoBulk]
  | iface n d => simp [Rows.uptoBulk]
  | map l => simp [Rows.uptoBulk]
  | held v => simp [Rows.uptoBulk]
theorem bulk_sum {H : Type} : ∀ l : List (DataW H), Rows.uptoBulkAll l = (l.map Rows.uptoBulk).sum
  | [] => by simp [Rows.uptoBulkAll]
  | d :: r => by rw [Rows.uptoBulkAll, bulk_sum r]; simp
theorem bulk_len {H : Type} : ∀ l : List (DataW H), l.length ≤ Rows.uptoBulkAll l
  | [] => by simp
  | d :: r => by
    have := bulk_len r
    have := bulk_pos d
    rw [Rows.uptoBulkAll, List.length_cons]
    omega
theorem sum_le {f g : Nat → Nat} : ∀ l : List Nat, (∀ i ∈ l, f i ≤ g i) → (l.map f).sum ≤ (l.map g).sum
  | [], _ => by simp
  | i :: r, h => by
    have h1 := sum_le r (fun j hj => h j (List.mem_cons_of_mem _ hj))
    have h2 := h i (List.mem_cons_self ..)
    simp only [List.map_cons, List.sum_cons]
    omega
theorem parts2_sum : ∀ l : List Ex, (l.map fun e => 2 * e.parts).sum = 2 * partsL l
  | [] => by simp [partsL]
  | a :: r => by rw [List.map_cons, List.sum_cons, parts2_sum r, partsL]; omega
theorem flat_len {size : Nat} {f : Nat → List Value} : ∀ {n : Nat}, (∀ i, i < n → (f i).length = size) → ((List.range n).flatMap f).length = n * size
  | 0, _ => by simp
  | n + 1, h => by
    rw [List.range_succ, List.flatMap_append, List.length_append, flat_len (fun i hi => h i (by omega))]
    simp [h n (by omega), Nat.succ_mul]
theorem flat_part {size : Nat} {f : Nat → List Value} : ∀ {n : Nat}, (∀ i, i < n → (f i).length = size) → ∀ i, i < n → (((List.range n).flatMap f).drop (i * size)).take size = f i
  | n + 1, h, i, hi => by
    have hl := flat_len (fun j hj => h j (by omega)) (n := n) (f := f) (size := size)
    rw [List.range_succ, List.flatMap_append]
    simp only [List.flatMap_cons, List.flatMap_nil, List.append_nil]
    by_cases hin : i < n
    · have hle : i * size + size ≤ n * size := by rw [← Nat.succ_mul]; exact Nat.mul_le_mul_right _ hin
      rw [List.drop_append_of_le_length (by omega), List.take_append_of_le_length (by rw [List.length_drop]; omega)]
      exact flat_part (fun j hj => h j (by omega)) i hin
    · have e : i = n := by omega
      subst e
      rw [List.drop_append, hl, Nat.sub_self, List.drop_zero, List.drop_eq_nil_of_le (by omega), List.nil_append, List.take_of_length_le (by rw [h i hi]; exact Nat.le_refl _)]
theorem flat_at {size : Nat} {f : Nat → List Value} {n : Nat} (h : ∀ i, i < n → (f i).length = size) (hs : 0 < size) {j : Nat} {u : Value} (hj : ((List.range n).flatMap f)[j]? = some u) : ∃ i r, i < n ∧ r < size ∧ j = i * size + r ∧ (f i)[r]? = some u := by
  have hlt : j < n * size := by rw [← flat_len h]; exact (List.getElem?_eq_some_iff.1 hj).1
  have hi : j / size < n := by rw [Nat.div_lt_iff_lt_mul hs]; exact hlt
  refine ⟨j / size, j % size, hi, Nat.mod_lt _ hs, by rw [Nat.mul_comm]; exact (Nat.div_add_mod j size).symm, ?_⟩
  rw [← flat_part h _ hi, List.getElem?_take, if_pos (Nat.mod_lt _ hs), List.getElem?_drop, Nat.mul_comm, Nat.div_add_mod]
  exact hj
section
variable {H : Type} {enc : TypeId × Value → H} {W : World}
set_option maxHeartbeats 1000000 in
/-- a slice of structs -/
theorem open_structs {α : Type} [Inhabited α] {Pd : World → Nat → α → List Value → Prop} {μ : α → Nat} {t e : TypeId} {size fuel : Nat} {cs : List Value} {x : DataW H × List MemPlace} (ht : Tryz.prog.underlying t = some (.slice e)) (hsz : Tryz.prog.cellsOf e = size) (hpos : 0 < size)
    (hel : ∀ n cs' y, n < fuel → DataW.trod enc Tryz.prog W 0 (fun _ => true) true n e cs' = some y → ∃ a : α, Pd W W.heap.size a cs' ∧ μ a ≤ Rows.uptoBulk y.1) (h : DataW.trod enc Tryz.prog W 0 (fun _ => true) true fuel t cs = some x) :
    ∃ (A : Option Addr) (l : List α) (c : Nat), cs = [.slice A l.length c] ∧ LiesAt Pd size W W.heap.size A l ∧ l.length ≤ c ∧ (l.map μ).sum + 1 ≤ Rows.uptoBulk x.1 ∧ l.length + 1 ≤ Rows.uptoBulk x.1 := by
  rcases DataW.trod_slice ht h with ⟨rfl, rfl⟩ | ⟨a, len, cap, elems, rest, n, rfl, rfl, rfl, -, hl, hm, hlen, hel', -, -⟩
  · exact ⟨none, [], 0, rfl, ⟨by simp, [], Reads.none_, fun i hi => by cases hi⟩, by simp, by simp [Rows.uptoBulk], by simp [Rows.uptoBulk]⟩
  · obtain ⟨V, hV⟩ := choose_lt (α := α × List Value) (n := len) (p := fun i q => W.cells? 0 (a.add (i * size)) size = some q.2 ∧ Pd W W.heap.size q.1 q.2 ∧ μ q.1 ≤ Rows.uptoBulk (elems.getD i (.nil, [])).1) (fun i hi => by
      have h1 := hel' i hi
      have hi' : i < elems.length := by omega
      rw [List.getElem?_eq_getElem hi', hsz] at h1
      obtain ⟨cs', h2, h3⟩ := Option.bind_eq_some_iff.1 h1
      obtain ⟨b, h4, h5⟩ := hel n cs' _ (Nat.lt_succ_self n) h3
      exact ⟨(b, cs'), h2, h4, by rw [List.getD_eq_getElem?_getD, List.getElem?_eq_getElem hi']; exact h5⟩)
    have hlenV : ∀ i, i < len → (V i).2.length = size := fun i hi => (World.cells?_some (hV i hi).1).2.1
    have hLL : ((List.range len).map (fun i => (V i).1)).length = len := by simp
    refine ⟨some a, (List.range len).map (fun i => (V i).1), cap, by rw [hLL], ⟨by rw [hLL]; omega, (List.range len).flatMap (fun i => (V i).2), ⟨by rw [hLL]; exact flat_len hlenV, fun h0 => ?_⟩, fun i hi => ?_⟩, by rw [hLL]; exact hl, ?_, ?_⟩
    · rw [hLL] at h0
      have hc0 : ∀ i r, i < len → r < size → ∀ u, (V i).2[r]? = some u → W.cell? (a.add (i * size + r)) = some u := fun i r hi hr u hu => by
        have h1 := (World.cells?_some (hV i hi).1).2.2 r hr
        rw [add_of_add] at h1
        rw [h1, hu]
      refine ⟨a, rfl, ?_, fun j u hu => ?_⟩
      · have hz : 0 < (V 0).2.length := by rw [hlenV 0 h0]; exact hpos
        have h1 := hc0 0 0 h0 hpos _ (List.getElem?_eq_getElem hz)
        have := block_lt_of_cell h1
        rwa [block_of_add] at this
      · obtain ⟨i, r, hi, hr, rfl, hu'⟩ := flat_at hlenV hpos hu
        exact hc0 i r hi hr u hu'
    · have hi' : i < len := by rw [hLL] at hi; exact hi
      rw [flat_part hlenV i hi']
      simp only [List.getElem_map, List.getElem_range]
      exact (hV i hi').2.1
    · show _ ≤ Rows.uptoBulk (DataW.slice (elems.map (·.1)) (rest.map (·.1)))
      rw [Rows.uptoBulk, bulk_sum]
      have e1 : (elems.map (·.1)).map Rows.uptoBulk = (List.range len).map (fun i => Rows.uptoBulk (elems.getD i (.nil, [])).1) := by
        rw [List.map_map, map_by_index elems (.nil, []), hlen]
        rfl
      rw [e1, List.map_map]
      have := sum_le (f := μ ∘ fun i => (V i).1) (g := fun i => Rows.uptoBulk (elems.getD i (.nil, [])).1) (List.range len) (fun i hi => (hV i (List.mem_range.1 hi)).2.2)
      omega
    · show _ ≤ Rows.uptoBulk (DataW.slice (elems.map (·.1)) (rest.map (·.1)))
      rw [Rows.uptoBulk, hLL]
      have := bulk_len (elems.map (·.1))
      rw [List.length_map, hlen] at this
      omega
theorem ints_at {fuel : Nat} {cs : List Value} {x : DataW H × List MemPlace} (h : DataW.trod enc Tryz.prog W 0 (fun _ => true) true fuel 22 cs = some x) :
    ∃ (A : Option Addr) (l : List Int) (c : Nat), cs = [.slice A l.length c] ∧ Reads W W.heap.size 1 A l.length (numV .i64 l) ∧ l.length ≤ maxLen := by
  rcases open_ints Tryz.underlying22 Tryz.underlying3 (by kernel_rfl) h with ⟨rfl, -⟩ | ⟨a, len, cap, zs, rfl, -, hl, hm, hz, -, hcell, hwz⟩
  · exact ⟨none, [], 0, rfl, Reads.none_, by simp⟩
  · simp only [if_true] at hz
    have e : (zs.take len).length = len := by simp; omega
    refine ⟨some a, zs.take len, cap, by rw [e], ?_, by rw [e]; omega⟩
    rw [e]
    refine ⟨by rw [numV_len]; omega, fun h0 => ?_⟩
    have h1 := hcell 0 (by omega)
    refine ⟨a, rfl, by have := block_lt_of_cell h1; rwa [block_of_add] at this, fun j u hu => ?_⟩
    obtain ⟨hj, rfl⟩ := numV_get _ _ _ _ hu
    have hj' : j < zs.length := by rw [e] at hj; omega
    rw [hcell j hj']
    simp [List.getD, hj']
theorem int_at {fuel : Nat} {cs : List Value} {x : DataW H × List MemPlace} (h : DataW.trod enc Tryz.prog W 0 (fun _ => true) true fuel 3 cs = some x) : ∃ n, cs = [.int .i64 n] := by
  obtain ⟨n, e, -⟩ := DataW.trod_int Tryz.underlying3 h
  exact ⟨n, e⟩
theorem str_at' {fuel : Nat} {cs : List Value} {x : DataW H × List MemPlace} (h : DataW.trod enc Tryz.prog W 0 (fun _ => true) true fuel 9 cs = some x) : ∃ s : ByteArray, cs = [.string s] ∧ s.size ≤ maxLen := by
  obtain ⟨s, e, -, hs⟩ := DataW.trod_string Tryz.underlying9 h
  exact ⟨s, e, hs⟩
theorem list4 {α : Type} : ∀ {cs : List α}, cs.length = 4 → ∃ a b c d, cs = [a, b, c, d]
  | [a, b, c, d], _ => ⟨a, b, c, d, rfl⟩
theorem list8 {α : Type} : ∀ {cs : List α}, cs.length = 8 → ∃ a b c d e f g h, cs = [a, b, c, d, e, f, g, h]
  | [a, b, c, d, e, f, g, h], _ => ⟨a, b, c, d, e, f, g, h, rfl⟩
theorem fieldsV {fuel : Nat} {cs : List Value} {x : DataW H × List MemPlace} (h : DataW.trod enc Tryz.prog W 0 (fun _ => true) true fuel 24 cs = some x) :
    ∃ y0 y1 y2 y3 n, fuel = n + 1 ∧ x.1 = .agg [y0.1, y1.1, y2.1, y3.1] ∧ cs.length = 4 ∧ DataW.trod enc Tryz.prog W 0 (fun _ => true) true n 3 ((cs.drop 0).take 1) = some y0 ∧ DataW.trod enc Tryz.prog W 0 (fun _ => true) true n 3 ((cs.drop 1).take 1) = some y1 ∧ DataW.trod enc Tryz.prog W 0 (fun _ => true) true n 9 ((cs.drop 2).take 1) = some y2 ∧ DataW.trod enc Tryz.prog W 0 (fun _ => true) true n 22 ((cs.drop 3).take 1) = some y3 := by
  obtain ⟨xs, n, hn, rfl, hl, hlen, hf⟩ := DataW.trod_struct Tryz.underlying24 h
  match xs, hlen with
  | [y0, y1, y2, y3], _ =>
    refine ⟨y0, y1, y2, y3, n, hn, rfl, hl.trans (by kernel_rfl), ?_, ?_, ?_, ?_⟩
    · have h : DataW.trod enc Tryz.prog W 0 (fun _ => true) true n 3 ((cs.drop 0).take (Tryz.prog.cellsOf 3)) = some y0 := hf 0 _ rfl
      rw [show Tryz.prog.cellsOf 3 = 1 by kernel_rfl] at h
      exact h
    · have h : DataW.trod enc Tryz.prog W 0 (fun _ => true) true n 3 ((cs.drop 1).take (Tryz.prog.cellsOf 3)) = some y1 := hf 1 _ rfl
      rw [show Tryz.prog.cellsOf 3 = 1 by kernel_rfl] at h
      exact h
    · have h : DataW.trod enc Tryz.prog W 0 (fun _ => true) true n 9 ((cs.drop 2).take (Tryz.prog.cellsOf 9)) = some y2 := hf 2 _ rfl
      rw [show Tryz.prog.cellsOf 9 = 1 by kernel_rfl] at h
      exact h
    · have h : DataW.trod enc Tryz.prog W 0 (fun _ => true) true n 22 ((cs.drop 3).take (Tryz.prog.cellsOf 22)) = some y3 := hf 3 _ rfl
      rw [show Tryz.prog.cellsOf 22 = 1 by kernel_rfl] at h
      exact h
theorem fieldsE {fuel : Nat} {cs : List Value} {x : DataW H × List MemPlace} (h : DataW.trod enc Tryz.prog W 0 (fun _ => true) true fuel 27 cs = some x) :
    ∃ y0 y1 y2 y3 y4 n, fuel = n + 1 ∧ x.1 = .agg [y0.1, y1.1, y2.1, y3.1, y4.1] ∧ cs.length = 8 ∧ DataW.trod enc Tryz.prog W 0 (fun _ => true) true n 3 ((cs.drop 0).take 1) = some y0 ∧ DataW.trod enc Tryz.prog W 0 (fun _ => true) true n 3 ((cs.drop 1).take 1) = some y1 ∧ DataW.trod enc Tryz.prog W 0 (fun _ => true) true n 9 ((cs.drop 2).take 1) = some y2 ∧ DataW.trod enc Tryz.prog W 0 (fun _ => true) true n 24 ((cs.drop 3).take 4) = some y3 ∧ DataW.trod enc Tryz.prog W 0 (fun _ => true) true n 25 ((cs.drop 7).take 1) = some y4 := by
  obtain ⟨xs, n, hn, rfl, hl, hlen, hf⟩ := DataW.trod_struct Tryz.underlying27 h
  match xs, hlen with
  | [y0, y1, y2, y3, y4], _ =>
    refine ⟨y0, y1, y2, y3, y4, n, hn, rfl, hl.trans (by kernel_rfl), ?_, ?_, ?_, ?_, ?_⟩
    · have h : DataW.trod enc Tryz.prog W 0 (fun _ => true) true n 3 ((cs.drop 0).take (Tryz.prog.cellsOf 3)) = some y0 := hf 0 _ rfl
      rw [show Tryz.prog.cellsOf 3 = 1 by kernel_rfl] at h
      exact h
    · have h : DataW.trod enc Tryz.prog W 0 (fun _ => true) true n 3 ((cs.drop 1).take (Tryz.prog.cellsOf 3)) = some y1 := hf 1 _ rfl
      rw [show Tryz.prog.cellsOf 3 = 1 by kernel_rfl] at h
      exact h
    · have h : DataW.trod enc Tryz.prog W 0 (fun _ => true) true n 9 ((cs.drop 2).take (Tryz.prog.cellsOf 9)) = some y2 := hf 2 _ rfl
      rw [show Tryz.prog.cellsOf 9 = 1 by kernel_rfl] at h
      exact h
    · have h : DataW.trod enc Tryz.prog W 0 (fun _ => true) true n 24 ((cs.drop 3).take (Tryz.prog.cellsOf 24)) = some y3 := hf 3 _ rfl
      rw [show Tryz.prog.cellsOf 24 = 4 by kernel_rfl] at h
      exact h
    · have h : DataW.trod enc Tryz.prog W 0 (fun _ => true) true n 25 ((cs.drop 7).take (Tryz.prog.cellsOf 25)) = some y4 := hf 4 _ rfl
      rw [show Tryz.prog.cellsOf 25 = 1 by kernel_rfl] at h
      exact h
theorem val_at {fuel : Nat} {cs : List Value} {x : DataW H × List MemPlace} (h : DataW.trod enc Tryz.prog W 0 (fun _ => true) true fuel 24 cs = some x) :
    ∃ (v : Val) (A : Option Addr) (c : Nat), cs = [.int .i64 v.k, .int .i64 v.n, .string v.s, .slice A v.l.length c] ∧ Reads W W.heap.size 1 A v.l.length (numV .i64 v.l) ∧ v.l.length ≤ maxLen ∧ v.s.size ≤ maxLen := by
  obtain ⟨y0, y1, y2, y3, n, -, -, hl, h0, h1, h2, h3⟩ := fieldsV h
  obtain ⟨a, b, c, d, rfl⟩ := list4 hl
  obtain ⟨k, e0⟩ := int_at h0
  obtain ⟨m, e1⟩ := int_at h1
  obtain ⟨s, e2, hs⟩ := str_at' h2
  obtain ⟨A, l, c', e3, hr, hm⟩ := ints_at h3
  simp only [List.drop_zero, List.drop_succ_cons, List.take_succ_cons, List.take_zero, List.cons.injEq, and_true] at e0 e1 e2 e3
  subst e0 e1 e2 e3
  exact ⟨⟨k, m, s, l⟩, A, c', rfl, hr, hm, hs⟩
instance : Inhabited Ex := ⟨.mk 0 0 .empty ⟨0, 0, .empty, []⟩ []⟩
/-- an expression, by induction on the depth of its reading -/
theorem expr_at : ∀ (fuel : Nat) (cs : List Value) (x : DataW H × List MemPlace), DataW.trod enc Tryz.prog W 0 (fun _ => true) true fuel 27 cs = some x → ∃ e : Ex, ExAt W W.heap.size e cs ∧ 2 * e.parts ≤ Rows.uptoBulk x.1 := by
  intro fuel
  induction fuel using Nat.strongRecOn with
  | _ fuel ih =>
    intro cs x h
    obtain ⟨y0, y1, y2, y3, y4, n, hfu, hx, hl, h0, h1, h2, h3, h4⟩ := fieldsE h
    obtain ⟨a, b, c, d, e, f, g, i, rfl⟩ := list8 hl
    obtain ⟨k, e0⟩ := int_at h0
    obtain ⟨op, e1⟩ := int_at h1
    obtain ⟨s, e2, hs⟩ := str_at' h2
    obtain ⟨v, A2, c2, e3, hr2, hl2, hs2⟩ := val_at h3
    obtain ⟨A', ar, c', e4, hL, hc, hsum, -⟩ := open_structs (α := Ex) (Pd := fun w B e cs => ExAt w B e cs) (μ := fun e => 2 * e.parts) Tryz.underlying25 (show Tryz.prog.cellsOf 27 = 8 by kernel_rfl) (by decide) (fun m cs' y hm h' => ih m (by omega) cs' y h') h4
    simp only [List.drop_zero, List.drop_succ_cons, List.take_succ_cons, List.take_zero, List.cons.injEq, and_true] at e0 e1 e2 e3 e4
    obtain ⟨e3a, e3b, e3c, e3d⟩ := e3
    subst e0 e1 e2 e3a e3b e3c e3d e4
    obtain ⟨hm, cs', hr, hi⟩ := hL
    refine ⟨.mk k op s v ar, ExAt.mk (e := .mk k op s v ar) hs hs2 hl2 hm hr2 hr hi, ?_⟩
    rw [parts_eq, hx]
    simp only [Rows.uptoBulk, Rows.uptoBulkAll]
    show 2 * (partsL ar + 1) ≤ _
    rw [parts2_sum] at hsum
    omega
end
end Go.Proofs.YtobanldeicclmaaGreatDoor
namespace Go.Proofs.YtobanldeicclmaaGreatDoor
open Go.ChangeShapes Go.WideShapes Go.ChangeAt Go.RowKit Go.Joins
theorem own : ownKnob Tryz.prog.godebug = none := by kernel_rfl
theorem laidOut : laidOutB Tryz.prog = true := by kernel_rfl
theorem below_trodAll {H : Type} {enc : TypeId × Value → H} {P : Program} {W W' : World} (hl : laidOutB P = true) (hb : Below W.heap.size W W') :
    ∀ {ts : List TypeId} {vs : List Value} {ds : List (DataW H)} {ps : List MemPlace}, (∀ t ∈ ts, P.readableRec t = true ∧ t < P.types.size) →
    DataW.TrodAll enc P W 0 (fun _ => true) true ts vs ds ps → (∀ x ∈ ps, x.block < W.heap.size) → DataW.TrodAll enc P W' 0 (fun b => decide (b < W.heap.size)) true ts vs ds ps
  | [], [], [], _, _, h, _ => h
  | _ :: _, _ :: _, _ :: _, _, hr, ⟨p, q, h1, h2, e⟩, hs =>
    ⟨p, q, Below.trod hl (hr _ (List.mem_cons.2 (Or.inl rfl))).1 (hr _ (List.mem_cons.2 (Or.inl rfl))).2 h1 hb (fun x hx => hs x (by rw [e]; exact List.mem_append_left _ hx)),
      below_trodAll hl hb (fun t ht => hr t (List.mem_cons.2 (Or.inr ht))) h2 (fun x hx => hs x (by rw [e]; exact List.mem_append_right _ hx)), e⟩
  | [], [], _ :: _, _, _, h, _ => h.elim
  | [], _ :: _, _, _, _, h, _ => by cases h
  | _ :: _, [], _, _, _, h, _ => by cases h
  | _ :: _, _ :: _, [], _, _, h, _ => h.elim
theorem law_post {H : Type} {enc : TypeId × Value → H} {f : Func} {s : ChangeSpec} {W W' : World} {args : Array Value} {ds gs : List (DataW H)} {before : List MemPlace}
    (hr : ∀ t ∈ f.params.toList, Tryz.prog.readableRec t = true ∧ t < Tryz.prog.types.size) (hrt : f.resultTypes = #[4]) (hv : s.vars = [])
    (h1 : (s.fn H (ds ++ gs)).results = [.lit (.bool true)]) (h2 : (s.fn H (ds ++ gs)).args = ds) (h3 : (s.fn H (ds ++ gs)).vars = [])
    (hW : DataW.Whole enc Tryz.prog f.params.toList s.vars false W args.toList ds gs before) (hb : Below W.heap.size W W') : s.post enc Tryz.prog f false true false false W args (.bool true) W' := by
  have hlt := hW.lt
  have hW0 := hW
  obtain ⟨p, q, hA, hV, rfl, _, _⟩ := hW
  refine ⟨ds, gs, p ++ q, [], p, [], hW0, ?_, ?_, ?_, hb.frame _, fun h => by cases h⟩
  · rw [h1, hrt]
    exact ⟨[], [], shut_bool Tryz.underlying4 true, rfl, rfl⟩
  · rw [h2]
    exact below_trodAll laidOut hb hr hA (fun x hx => by simpa using hlt x (List.mem_append_left _ hx))
  · rw [h3, hv]; rfl
def laidList : List (String × DataW Unit) := [("math/bits.deBruijn32tab", Rows.laid_math_bits_deBruijn32tab), ("math/bits.deBruijn64tab", Rows.laid_math_bits_deBruijn64tab), ("internal/strconv.uint64pow10", Rows.laid_internal_strconv_uint64pow10), ("unicode/utf8.acceptRanges", Rows.laid_unicode_utf8_acceptRanges), ("unicode/utf8.first", Rows.laid_unicode_utf8_first)]
theorem plainList : (laidList.all fun x => x.2.handleName?.isNone) = true := by kernel_rfl
theorem tab_of_g : Tryz.prog.globalNamed "internal/strconv.uint64pow10" = some 4 := by kernel_rfl
theorem tab_of_gt : (Tryz.prog.globals[4]?).map (·.type) = some 153 := by kernel_rfl
theorem tab_of_c : Tryz.prog.cellsOf 153 = 20 := by kernel_rfl
theorem tab_of_e : Tryz.prog.cellsOf 133 = 1 := by kernel_rfl
theorem tab_of_data : (Rows.laid_internal_strconv_uint64pow10 : DataW Unit) = Lib.tabData .u64 Lib.pow10Tab := by kernel_rfl
/-- what the row's list gives: the table 'internal/strconv.uint64pow10' -/
theorem tab_of {W : World} (h : laidMetH Tryz.prog laidList W) : Tab W := by
  rw [MakeChecks.laidMetH_plain _ _ _ plainList] at h
  have h3 := (laidMet.tail (laidMet.tail h))
  unfold Tab
  rw [tab_of_data] at h3
  exact Lib.tabIs_of_head tab_of_g tab_of_gt Tryz.underlying153 Tryz.underlying133 tab_of_e tab_of_c h3
/-- Go's own bound holds a number: the settled world's shape -/
theorem mx_of {W : World} (h : W.ShapedOpen Tryz.prog) : Mx W :=
  cell_of_shapedOpen_int (zero := #[.int .i64 0]) (t := 3) h (by decide +kernel) (by kernel_rfl) rfl (by kernel_rfl) (by kernel_rfl) Tryz.underlying3
/-- the cells of a datum of integers, nested -/
def flat1 : DataW Unit → List Value
  | .lit (.int k n) => [.int k n]
  | _ => []
def flat2 : DataW Unit → List Value
  | .agg l => l.flatMap flat1
  | d => flat1 d
def flat3 : DataW Unit → List Value
  | .agg l => l.flatMap flat2
  | d => flat1 d
def cellsOfD (d : DataW Unit) (o : Obj) : Obj := match o with
  | .cells _ t frozen => .cells (flat3 d).toArray t frozen
  | o => o
noncomputable def laidWorld (os : Os) : World :=
  { World.holding Tryz.prog os ⟨#[], #[], []⟩ with heap := ((((((World.holding Tryz.prog os ⟨#[], #[], []⟩).heap.modify 6 (cellsOfD Rows.laid_math_bits_deBruijn32tab)).modify 7 (cellsOfD Rows.laid_math_bits_deBruijn64tab)).modify 4 (cellsOfD Rows.laid_internal_strconv_uint64pow10)).modify 3 (cellsOfD Rows.laid_unicode_utf8_acceptRanges)).modify 2 (cellsOfD Rows.laid_unicode_utf8_first)) }
end Go.Proofs.YtobanldeicclmaaGreatDoor
