/- Arguments opened out of their readings: expressions, scenes, texts; their bulk bounds their parts. · Rows of ints opened, with capacity and bulk. · bits.Div64: what it hands back hangs on its arguments alone. · The calendar, in plain mathematics: years, months, the number of a day, the date of a day. No program in sight. · The walks of the functions of days, in both packages. Conditions: years from 0 to 10000 (leap), 1600 to 2400 (number). -/
import Derived.Test.YtpanbeoelbhhgaaGreatDoorY17
import Derived.Test.YtpanbeoelbhhgaaGreatDoorY16
import Derived.Test.YtpanbeoelbhhgaaGreatDoorY15
import Derived.Test.YtpanbeoelbhhgaaGreatDoorRows
import Derived.ProofKit
import Derived.SliceStrings
import Derived.ChangeSlices
import Derived.Deep.Slices
import Derived.Lib.SmallJoins
import Derived.Test.YtpanbeoelbhhgaaGreatDoorY1
import Derived.Test.YtpanbeoelbhhgaaGreatDoorYSh
import Derived.Lib.ItoaNum
import Derived.Deep.DrawnRows
import Derived.WalkKit
import Derived.Test.YtpanbeoelbhhgaaGreatDoorY9
namespace Go.Proofs.YtpanbeoelbhhgaaGreatDoor
open Go.Deep Go.ChangeShapes Go.WideShapes Go.ChangeAt Go.RowKit Go.Joins
theorem bulk_pos {H : Type} (d : DataW H) : 1 ≤ Rows.uptoBulk d := by
  cases d with
  | lit l => cases l <;> simp [Rows.uptoBulk]
  | nil => simp [Rows.uptoBulk]
  | ptr d => simp [Rows.uptoBulk]
  | slice a b => simp [Rows.uptoBulk]
  | agg l => simp [Rows.uptoBulk]
  | iface n d => simp [Rows.uptoBulk]
  | map l => simp [Rows.uptoBulk]
  | held v => simp [Rows.uptoBulk]
theorem bulk_sum {H : Type} : ∀ l : List (DataW H), Rows.uptoBulkAll l = (l.map Rows.uptoBulk).sum
  | [] => by simp [Rows.uptoBulkAll]
  | d :: r => by rw [Rows.uptoBulkAll, bulk_sum r]; simp
theorem bulk_len {H : Type} : ∀ l : List (DataW H), l.length ≤ Rows.uptoBulkAll l
  | [] => by simp
  | d :: r => by
    have := bulk_len r
    have := bulk_pos d
    rw [Rows.uptoBulkAll, List.length_cons]
    omega
theorem sum_le {f g : Nat → Nat} : ∀ l : List Nat, (∀ i ∈ l, f i ≤ g i) → (l.map f).sum ≤ (l.map g).sum
  | [], _ => by simp
  | i :: r, h => by
    have h1 := sum_le r (fun j hj => h j (List.mem_cons_of_mem _ hj))
    have h2 := h i (List.mem_cons_self ..)
    simp only [List.map_cons, List.sum_cons]
    omega
theorem mem_sum {α : Type} {f : α → Nat} {a : α} : ∀ {l : List α}, a ∈ l → f a ≤ (l.map f).sum
  | b :: r, h => by
    simp only [List.map_cons, List.sum_cons]
    rcases List.mem_cons.1 h with e | e
    · rw [e]; omega
    · have := mem_sum (f := f) e; omega
theorem parts2_sum : ∀ l : List Ex, (l.map fun e => 2 * e.parts).sum = 2 * partsL l
  | [] => by simp [partsL]
  | a :: r => by rw [List.map_cons, List.sum_cons, parts2_sum r, partsL]; omega
theorem flat_len {size : Nat} {f : Nat → List Value} : ∀ {n : Nat}, (∀ i, i < n → (f i).length = size) → ((List.range n).flatMap f).length = n * size
  | 0, _ => by simp
  | n + 1, h => by
    rw [List.range_succ, List.flatMap_append, List.length_append, flat_len (fun i hi => h i (by omega))]
    simp [h n (by omega), Nat.succ_mul]
theorem flat_part {size : Nat} {f : Nat → List Value} : ∀ {n : Nat}, (∀ i, i < n → (f i).length = size) → ∀ i, i < n → (((List.range n).flatMap f).drop (i * size)).take size = f i
  | n + 1, h, i, hi => by
    have hl := flat_len (fun j hj => h j (by omega)) (n := n) (f := f) (size := size)
    rw [List.range_succ, List.flatMap_append]
    simp only [List.flatMap_cons, List.flatMap_nil, List.append_nil]
    by_cases hin : i < n
    · have hle : i * size + size ≤ n * size := by rw [← Nat.succ_mul]; exact Nat.mul_le_mul_right _ hin
      rw [List.drop_append_of_le_length (by omega), List.take_append_of_le_length (by rw [List.length_drop]; omega)]
      exact flat_part (fun j hj => h j (by omega)) i hin
    · have e : i = n := by omega
      subst e
      rw [List.drop_append, hl, Nat.sub_self, List.drop_zero, List.drop_eq_nil_of_le (by omega), List.nil_append, List.take_of_length_le (by rw [h i hi]; exact Nat.le_refl _)]
theorem flat_at {size : Nat} {f : Nat → List Value} {n : Nat} (h : ∀ i, i < n → (f i).length = size) (hs : 0 < size) {j : Nat} {u : Value} (hj : ((List.range n).flatMap f)[j]? = some u) : ∃ i r, i < n ∧ r < size ∧ j = i * size + r ∧ (f i)[r]? = some u := by
  have hlt : j < n * size := by rw [← flat_len h]; exact (List.getElem?_eq_some_iff.1 hj).1
  have hi : j / size < n := by rw [Nat.div_lt_iff_lt_mul hs]; exact hlt
  refine ⟨j / size, j % size, hi, Nat.mod_lt _ hs, by rw [Nat.mul_comm]; exact (Nat.div_add_mod j size).symm, ?_⟩
  rw [← flat_part h _ hi, List.getElem?_take, if_pos (Nat.mod_lt _ hs), List.getElem?_drop, Nat.mul_comm, Nat.div_add_mod]
  exact hj
section
variable {H : Type} {enc : TypeId × Value → H} {W : World}
set_option maxHeartbeats 1000000 in
/-- a slice of structs -/
theorem open_structs {α : Type} [Inhabited α] {Pd : World → Nat → α → List Value → Prop} {μ : α → Nat} {t e : TypeId} {size fuel : Nat} {cs : List Value} {x : DataW H × List MemPlace} (ht : Tryz.prog.underlying t = some (.slice e)) (hsz : Tryz.prog.cellsOf e = size) (hpos : 0 < size)
    (hel : ∀ n cs' y, n < fuel → DataW.trod enc Tryz.prog W 0 (fun _ => true) true n e cs' = some y → ∃ a : α, Pd W W.heap.size a cs' ∧ μ a ≤ Rows.uptoBulk y.1) (h : DataW.trod enc Tryz.prog W 0 (fun _ => true) true fuel t cs = some x) :
    ∃ (A : Option Addr) (l : List α) (c : Nat), cs = [.slice A l.length c] ∧ LiesAt Pd size W W.heap.size A l ∧ l.length ≤ c ∧ (l.map μ).sum + 1 ≤ Rows.uptoBulk x.1 ∧ l.length + 1 ≤ Rows.uptoBulk x.1 := by
  rcases DataW.trod_slice ht h with ⟨rfl, rfl⟩ | ⟨a, len, cap, elems, rest, n, rfl, rfl, rfl, -, hl, hm, hlen, hel', -, -⟩
  · exact ⟨none, [], 0, rfl, ⟨by simp, [], Reads.none_, fun i hi => by cases hi⟩, by simp, by simp [Rows.uptoBulk], by simp [Rows.uptoBulk]⟩
  · obtain ⟨V, hV⟩ := choose_lt (α := α × List Value) (n := len) (p := fun i q => W.cells? 0 (a.add (i * size)) size = some q.2 ∧ Pd W W.heap.size q.1 q.2 ∧ μ q.1 ≤ Rows.uptoBulk (elems.getD i (.nil, [])).1) (fun i hi => by
      have h1 := hel' i hi
      have hi' : i < elems.length := by omega
      rw [List.getElem?_eq_getElem hi', hsz] at h1
      obtain ⟨cs', h2, h3⟩ := Option.bind_eq_some_iff.1 h1
      obtain ⟨b, h4, h5⟩ := hel n cs' _ (Nat.lt_succ_self n) h3
      exact ⟨(b, cs'), h2, h4, by rw [List.getD_eq_getElem?_getD, List.getElem?_eq_getElem hi']; exact h5⟩)
    have hlenV : ∀ i, i < len → (V i).2.length = size := fun i hi => (World.cells?_some (hV i hi).1).2.1
    have hLL : ((List.range len).map (fun i => (V i).1)).length = len := by simp
    refine ⟨some a, (List.range len).map (fun i => (V i).1), cap, by rw [hLL], ⟨by rw [hLL]; omega, (List.range len).flatMap (fun i => (V i).2), ⟨by rw [hLL]; exact flat_len hlenV, fun h0 => ?_⟩, fun i hi => ?_⟩, by rw [hLL]; exact hl, ?_, ?_⟩
    · rw [hLL] at h0
      have hc0 : ∀ i r, i < len → r < size → ∀ u, (V i).2[r]? = some u → W.cell? (a.add (i * size + r)) = some u := fun i r hi hr u hu => by
        have h1 := (World.cells?_some (hV i hi).1).2.2 r hr
        rw [add_of_add] at h1
        rw [h1, hu]
      refine ⟨a, rfl, ?_, fun j u hu => ?_⟩
      · have hz : 0 < (V 0).2.length := by rw [hlenV 0 h0]; exact hpos
        have h1 := hc0 0 0 h0 hpos _ (List.getElem?_eq_getElem hz)
        have := block_lt_of_cell h1
        rwa [block_of_add] at this
      · obtain ⟨i, r, hi, hr, rfl, hu'⟩ := flat_at hlenV hpos hu
        exact hc0 i r hi hr u hu'
    · have hi' : i < len := by rw [hLL] at hi; exact hi
      rw [flat_part hlenV i hi']
      simp only [List.getElem_map, List.getElem_range]
      exact (hV i hi').2.1
    · show _ ≤ Rows.uptoBulk (DataW.slice (elems.map (·.1)) (rest.map (·.1)))
      rw [Rows.uptoBulk, bulk_sum]
      have e1 : (elems.map (·.1)).map Rows.uptoBulk = (List.range len).map (fun i => Rows.uptoBulk (elems.getD i (.nil, [])).1) := by
        rw [List.map_map, map_by_index elems (.nil, []), hlen]
        rfl
      rw [e1, List.map_map]
      have := sum_le (f := μ ∘ fun i => (V i).1) (g := fun i => Rows.uptoBulk (elems.getD i (.nil, [])).1) (List.range len) (fun i hi => (hV i (List.mem_range.1 hi)).2.2)
      omega
    · show _ ≤ Rows.uptoBulk (DataW.slice (elems.map (·.1)) (rest.map (·.1)))
      rw [Rows.uptoBulk, hLL]
      have := bulk_len (elems.map (·.1))
      rw [List.length_map, hlen] at this
      omega
theorem strs_at {fuel : Nat} {cs : List Value} {x : DataW H × List MemPlace} (h : DataW.trod enc Tryz.prog W 0 (fun _ => true) true fuel 34 cs = some x) :
    ∃ (A : Option Addr) (l : List ByteArray) (c : Nat), cs = [.slice A l.length c] ∧ StrsAt W W.heap.size A l ∧ l.length ≤ c ∧ l.length ≤ maxLen ∧ (∀ s ∈ l, s.size ≤ maxLen) ∧ l.length + 1 ≤ Rows.uptoBulk x.1 := by
  rcases open_strings Tryz.underlying34 Tryz.underlying9 (by kernel_rfl) h with ⟨rfl, rfl⟩ | ⟨a, len, cap, ss, rfl, -, hl, hm, hlen, rfl, hc, hs⟩
  · exact ⟨none, [], 0, rfl, ⟨rfl, fun h => absurd h (by simp)⟩, by simp, by simp, by simp, by simp [Rows.uptoBulk]⟩
  · simp only [if_true] at hlen
    have e : (ss.take len).length = len := by rw [List.length_take]; omega
    refine ⟨some a, ss.take len, cap, by rw [e], ⟨by rw [strV_len]; omega, fun h0 => ?_⟩, by rw [e]; exact hl, by rw [e]; omega, fun s hs' => hs s (List.mem_of_mem_take hs'), ?_⟩
    · rw [e] at h0
      have h1 := hc 0 (by omega)
      refine ⟨a, rfl, by have := block_lt_of_cell h1; rwa [block_of_add] at this, fun j u hu => ?_⟩
      unfold strV at hu
      rw [List.getElem?_map] at hu
      rcases hk : (ss.take len)[j]? with _ | s
      · rw [hk] at hu; cases hu
      · rw [hk] at hu
        obtain ⟨hj, hs'⟩ := List.getElem?_eq_some_iff.1 hk
        have hj' : j < ss.length := by rw [e] at hj; omega
        rw [hc j hj', List.getD_eq_getElem?_getD, List.getElem?_eq_getElem hj']
        rw [List.getElem_take] at hs'
        rw [hs']
        exact hu
    · show _ ≤ Rows.uptoBulk (DataW.slice (strs (ss.take len)) (strs (ss.drop len)))
      rw [Rows.uptoBulk]
      have := bulk_len (H := H) (strs (ss.take len))
      rw [show (strs (H := H) (ss.take len)).length = (ss.take len).length by simp [strs]] at this
      omega
theorem ints_at {fuel : Nat} {cs : List Value} {x : DataW H × List MemPlace} (h : DataW.trod enc Tryz.prog W 0 (fun _ => true) true fuel 22 cs = some x) :
    ∃ (A : Option Addr) (l : List Int) (c : Nat), cs = [.slice A l.length c] ∧ Reads W W.heap.size 1 A l.length (numV .i64 l) ∧ l.length ≤ maxLen := by
  rcases open_ints Tryz.underlying22 Tryz.underlying3 (by kernel_rfl) h with ⟨rfl, -⟩ | ⟨a, len, cap, zs, rfl, -, hl, hm, hz, -, hcell, hwz⟩
  · exact ⟨none, [], 0, rfl, Reads.none_, by simp⟩
  · simp only [if_true] at hz
    have e : (zs.take len).length = len := by simp; omega
    refine ⟨some a, zs.take len, cap, by rw [e], ?_, by rw [e]; omega⟩
    rw [e]
    refine ⟨by rw [numV_len]; omega, fun h0 => ?_⟩
    have h1 := hcell 0 (by omega)
    refine ⟨a, rfl, by have := block_lt_of_cell h1; rwa [block_of_add] at this, fun j u hu => ?_⟩
    obtain ⟨hj, rfl⟩ := numV_get _ _ _ _ hu
    have hj' : j < zs.length := by rw [e] at hj; omega
    rw [hcell j hj']
    simp [List.getD, hj']
theorem int_at {fuel : Nat} {cs : List Value} {x : DataW H × List MemPlace} (h : DataW.trod enc Tryz.prog W 0 (fun _ => true) true fuel 3 cs = some x) : ∃ n, cs = [.int .i64 n] := by
  obtain ⟨n, e, -⟩ := DataW.trod_int Tryz.underlying3 h
  exact ⟨n, e⟩
theorem str_at' {fuel : Nat} {cs : List Value} {x : DataW H × List MemPlace} (h : DataW.trod enc Tryz.prog W 0 (fun _ => true) true fuel 9 cs = some x) : ∃ s : ByteArray, cs = [.string s] ∧ s.size ≤ maxLen := by
  obtain ⟨s, e, -, hs⟩ := DataW.trod_string Tryz.underlying9 h
  exact ⟨s, e, hs⟩
theorem bool_at {fuel : Nat} {cs : List Value} {x : DataW H × List MemPlace} (h : DataW.trod enc Tryz.prog W 0 (fun _ => true) true fuel 4 cs = some x) : ∃ b, cs = [.bool b] := by
  obtain ⟨b, e, -⟩ := DataW.trod_bool Tryz.underlying4 h
  exact ⟨b, e⟩
theorem list2 {α : Type} : ∀ {cs : List α}, cs.length = 2 → ∃ a b, cs = [a, b]
  | [a, b], _ => ⟨a, b, rfl⟩
theorem list3 {α : Type} : ∀ {cs : List α}, cs.length = 3 → ∃ a b c, cs = [a, b, c]
  | [a, b, c], _ => ⟨a, b, c, rfl⟩
theorem list4 {α : Type} : ∀ {cs : List α}, cs.length = 4 → ∃ a b c d, cs = [a, b, c, d]
  | [a, b, c, d], _ => ⟨a, b, c, d, rfl⟩
theorem list7 {α : Type} : ∀ {cs : List α}, cs.length = 7 → ∃ a b c d e f g, cs = [a, b, c, d, e, f, g]
  | [a, b, c, d, e, f, g], _ => ⟨a, b, c, d, e, f, g, rfl⟩
theorem list8 {α : Type} : ∀ {cs : List α}, cs.length = 8 → ∃ a b c d e f g h, cs = [a, b, c, d, e, f, g, h]
  | [a, b, c, d, e, f, g, h], _ => ⟨a, b, c, d, e, f, g, h, rfl⟩
theorem fieldsV {fuel : Nat} {cs : List Value} {x : DataW H × List MemPlace} (h : DataW.trod enc Tryz.prog W 0 (fun _ => true) true fuel 24 cs = some x) :
    ∃ y0 y1 y2 y3 n, fuel = n + 1 ∧ x.1 = .agg [y0.1, y1.1, y2.1, y3.1] ∧ cs.length = 4 ∧ DataW.trod enc Tryz.prog W 0 (fun _ => true) true n 3 ((cs.drop 0).take 1) = some y0 ∧ DataW.trod enc Tryz.prog W 0 (fun _ => true) true n 3 ((cs.drop 1).take 1) = some y1 ∧ DataW.trod enc Tryz.prog W 0 (fun _ => true) true n 9 ((cs.drop 2).take 1) = some y2 ∧ DataW.trod enc Tryz.prog W 0 (fun _ => true) true n 22 ((cs.drop 3).take 1) = some y3 := by
  obtain ⟨xs, n, hn, rfl, hl, hlen, hf⟩ := DataW.trod_struct Tryz.underlying24 h
  match xs, hlen with
  | [y0, y1, y2, y3], _ =>
    refine ⟨y0, y1, y2, y3, n, hn, rfl, hl.trans (by kernel_rfl), ?_, ?_, ?_, ?_⟩
    · have h : DataW.trod enc Tryz.prog W 0 (fun _ => true) true n 3 ((cs.drop 0).take (Tryz.prog.cellsOf 3)) = some y0 := hf 0 _ rfl
      rw [show Tryz.prog.cellsOf 3 = 1 by kernel_rfl] at h
      exact h
    · have h : DataW.trod enc Tryz.prog W 0 (fun _ => true) true n 3 ((cs.drop 1).take (Tryz.prog.cellsOf 3)) = some y1 := hf 1 _ rfl
      rw [show Tryz.prog.cellsOf 3 = 1 by kernel_rfl] at h
      exact h
    · have h : DataW.trod enc Tryz.prog W 0 (fun _ => true) true n 9 ((cs.drop 2).take (Tryz.prog.cellsOf 9)) = some y2 := hf 2 _ rfl
      rw [show Tryz.prog.cellsOf 9 = 1 by kernel_rfl] at h
      exact h
    · have h : DataW.trod enc Tryz.prog W 0 (fun _ => true) true n 22 ((cs.drop 3).take (Tryz.prog.cellsOf 22)) = some y3 := hf 3 _ rfl
      rw [show Tryz.prog.cellsOf 22 = 1 by kernel_rfl] at h
      exact h
theorem fieldsC {fuel : Nat} {cs : List Value} {x : DataW H × List MemPlace} (h : DataW.trod enc Tryz.prog W 0 (fun _ => true) true fuel 101 cs = some x) :
    ∃ y0 y1 y2 n, fuel = n + 1 ∧ x.1 = .agg [y0.1, y1.1, y2.1] ∧ cs.length = 3 ∧ DataW.trod enc Tryz.prog W 0 (fun _ => true) true n 9 ((cs.drop 0).take 1) = some y0 ∧ DataW.trod enc Tryz.prog W 0 (fun _ => true) true n 3 ((cs.drop 1).take 1) = some y1 ∧ DataW.trod enc Tryz.prog W 0 (fun _ => true) true n 34 ((cs.drop 2).take 1) = some y2 := by
  obtain ⟨xs, n, hn, rfl, hl, hlen, hf⟩ := DataW.trod_struct Tryz.underlying101 h
  match xs, hlen with
  | [y0, y1, y2], _ =>
    refine ⟨y0, y1, y2, n, hn, rfl, hl.trans (by kernel_rfl), ?_, ?_, ?_⟩
    · have h : DataW.trod enc Tryz.prog W 0 (fun _ => true) true n 9 ((cs.drop 0).take (Tryz.prog.cellsOf 9)) = some y0 := hf 0 _ rfl
      rw [show Tryz.prog.cellsOf 9 = 1 by kernel_rfl] at h
      exact h
    · have h : DataW.trod enc Tryz.prog W 0 (fun _ => true) true n 3 ((cs.drop 1).take (Tryz.prog.cellsOf 3)) = some y1 := hf 1 _ rfl
      rw [show Tryz.prog.cellsOf 3 = 1 by kernel_rfl] at h
      exact h
    · have h : DataW.trod enc Tryz.prog W 0 (fun _ => true) true n 34 ((cs.drop 2).take (Tryz.prog.cellsOf 34)) = some y2 := hf 2 _ rfl
      rw [show Tryz.prog.cellsOf 34 = 1 by kernel_rfl] at h
      exact h
theorem fieldsN {fuel : Nat} {cs : List Value} {x : DataW H × List MemPlace} (h : DataW.trod enc Tryz.prog W 0 (fun _ => true) true fuel 97 cs = some x) :
    ∃ y0 y1 n, fuel = n + 1 ∧ x.1 = .agg [y0.1, y1.1] ∧ cs.length = 2 ∧ DataW.trod enc Tryz.prog W 0 (fun _ => true) true n 9 ((cs.drop 0).take 1) = some y0 ∧ DataW.trod enc Tryz.prog W 0 (fun _ => true) true n 34 ((cs.drop 1).take 1) = some y1 := by
  obtain ⟨xs, n, hn, rfl, hl, hlen, hf⟩ := DataW.trod_struct Tryz.underlying97 h
  match xs, hlen with
  | [y0, y1], _ =>
    refine ⟨y0, y1, n, hn, rfl, hl.trans (by kernel_rfl), ?_, ?_⟩
    · have h : DataW.trod enc Tryz.prog W 0 (fun _ => true) true n 9 ((cs.drop 0).take (Tryz.prog.cellsOf 9)) = some y0 := hf 0 _ rfl
      rw [show Tryz.prog.cellsOf 9 = 1 by kernel_rfl] at h
      exact h
    · have h : DataW.trod enc Tryz.prog W 0 (fun _ => true) true n 34 ((cs.drop 1).take (Tryz.prog.cellsOf 34)) = some y1 := hf 1 _ rfl
      rw [show Tryz.prog.cellsOf 34 = 1 by kernel_rfl] at h
      exact h
theorem fieldsB {fuel : Nat} {cs : List Value} {x : DataW H × List MemPlace} (h : DataW.trod enc Tryz.prog W 0 (fun _ => true) true fuel 88 cs = some x) :
    ∃ y0 y1 y2 y3 n, fuel = n + 1 ∧ x.1 = .agg [y0.1, y1.1, y2.1, y3.1] ∧ cs.length = 7 ∧ DataW.trod enc Tryz.prog W 0 (fun _ => true) true n 9 ((cs.drop 0).take 1) = some y0 ∧ DataW.trod enc Tryz.prog W 0 (fun _ => true) true n 22 ((cs.drop 1).take 1) = some y1 ∧ DataW.trod enc Tryz.prog W 0 (fun _ => true) true n 24 ((cs.drop 2).take 4) = some y2 ∧ DataW.trod enc Tryz.prog W 0 (fun _ => true) true n 4 ((cs.drop 6).take 1) = some y3 := by
  obtain ⟨xs, n, hn, rfl, hl, hlen, hf⟩ := DataW.trod_struct Tryz.underlying88 h
  match xs, hlen with
  | [y0, y1, y2, y3], _ =>
    refine ⟨y0, y1, y2, y3, n, hn, rfl, hl.trans (by kernel_rfl), ?_, ?_, ?_, ?_⟩
    · have h : DataW.trod enc Tryz.prog W 0 (fun _ => true) true n 9 ((cs.drop 0).take (Tryz.prog.cellsOf 9)) = some y0 := hf 0 _ rfl
      rw [show Tryz.prog.cellsOf 9 = 1 by kernel_rfl] at h
      exact h
    · have h : DataW.trod enc Tryz.prog W 0 (fun _ => true) true n 22 ((cs.drop 1).take (Tryz.prog.cellsOf 22)) = some y1 := hf 1 _ rfl
      rw [show Tryz.prog.cellsOf 22 = 1 by kernel_rfl] at h
      exact h
    · have h : DataW.trod enc Tryz.prog W 0 (fun _ => true) true n 24 ((cs.drop 2).take (Tryz.prog.cellsOf 24)) = some y2 := hf 2 _ rfl
      rw [show Tryz.prog.cellsOf 24 = 4 by kernel_rfl] at h
      exact h
    · have h : DataW.trod enc Tryz.prog W 0 (fun _ => true) true n 4 ((cs.drop 6).take (Tryz.prog.cellsOf 4)) = some y3 := hf 3 _ rfl
      rw [show Tryz.prog.cellsOf 4 = 1 by kernel_rfl] at h
      exact h
theorem fieldsR {fuel : Nat} {cs : List Value} {x : DataW H × List MemPlace} (h : DataW.trod enc Tryz.prog W 0 (fun _ => true) true fuel 92 cs = some x) :
    ∃ y0 y1 y2 n, fuel = n + 1 ∧ x.1 = .agg [y0.1, y1.1, y2.1] ∧ cs.length = 3 ∧ DataW.trod enc Tryz.prog W 0 (fun _ => true) true n 9 ((cs.drop 0).take 1) = some y0 ∧ DataW.trod enc Tryz.prog W 0 (fun _ => true) true n 22 ((cs.drop 1).take 1) = some y1 ∧ DataW.trod enc Tryz.prog W 0 (fun _ => true) true n 22 ((cs.drop 2).take 1) = some y2 := by
  obtain ⟨xs, n, hn, rfl, hl, hlen, hf⟩ := DataW.trod_struct Tryz.underlying92 h
  match xs, hlen with
  | [y0, y1, y2], _ =>
    refine ⟨y0, y1, y2, n, hn, rfl, hl.trans (by kernel_rfl), ?_, ?_, ?_⟩
    · have h : DataW.trod enc Tryz.prog W 0 (fun _ => true) true n 9 ((cs.drop 0).take (Tryz.prog.cellsOf 9)) = some y0 := hf 0 _ rfl
      rw [show Tryz.prog.cellsOf 9 = 1 by kernel_rfl] at h
      exact h
    · have h : DataW.trod enc Tryz.prog W 0 (fun _ => true) true n 22 ((cs.drop 1).take (Tryz.prog.cellsOf 22)) = some y1 := hf 1 _ rfl
      rw [show Tryz.prog.cellsOf 22 = 1 by kernel_rfl] at h
      exact h
    · have h : DataW.trod enc Tryz.prog W 0 (fun _ => true) true n 22 ((cs.drop 2).take (Tryz.prog.cellsOf 22)) = some y2 := hf 2 _ rfl
      rw [show Tryz.prog.cellsOf 22 = 1 by kernel_rfl] at h
      exact h
theorem fieldsE {fuel : Nat} {cs : List Value} {x : DataW H × List MemPlace} (h : DataW.trod enc Tryz.prog W 0 (fun _ => true) true fuel 27 cs = some x) :
    ∃ y0 y1 y2 y3 y4 n, fuel = n + 1 ∧ x.1 = .agg [y0.1, y1.1, y2.1, y3.1, y4.1] ∧ cs.length = 8 ∧ DataW.trod enc Tryz.prog W 0 (fun _ => true) true n 3 ((cs.drop 0).take 1) = some y0 ∧ DataW.trod enc Tryz.prog W 0 (fun _ => true) true n 3 ((cs.drop 1).take 1) = some y1 ∧ DataW.trod enc Tryz.prog W 0 (fun _ => true) true n 9 ((cs.drop 2).take 1) = some y2 ∧ DataW.trod enc Tryz.prog W 0 (fun _ => true) true n 24 ((cs.drop 3).take 4) = some y3 ∧ DataW.trod enc Tryz.prog W 0 (fun _ => true) true n 25 ((cs.drop 7).take 1) = some y4 := by
  obtain ⟨xs, n, hn, rfl, hl, hlen, hf⟩ := DataW.trod_struct Tryz.underlying27 h
  match xs, hlen with
  | [y0, y1, y2, y3, y4], _ =>
    refine ⟨y0, y1, y2, y3, y4, n, hn, rfl, hl.trans (by kernel_rfl), ?_, ?_, ?_, ?_, ?_⟩
    · have h : DataW.trod enc Tryz.prog W 0 (fun _ => true) true n 3 ((cs.drop 0).take (Tryz.prog.cellsOf 3)) = some y0 := hf 0 _ rfl
      rw [show Tryz.prog.cellsOf 3 = 1 by kernel_rfl] at h
      exact h
    · have h : DataW.trod enc Tryz.prog W 0 (fun _ => true) true n 3 ((cs.drop 1).take (Tryz.prog.cellsOf 3)) = some y1 := hf 1 _ rfl
      rw [show Tryz.prog.cellsOf 3 = 1 by kernel_rfl] at h
      exact h
    · have h : DataW.trod enc Tryz.prog W 0 (fun _ => true) true n 9 ((cs.drop 2).take (Tryz.prog.cellsOf 9)) = some y2 := hf 2 _ rfl
      rw [show Tryz.prog.cellsOf 9 = 1 by kernel_rfl] at h
      exact h
    · have h : DataW.trod enc Tryz.prog W 0 (fun _ => true) true n 24 ((cs.drop 3).take (Tryz.prog.cellsOf 24)) = some y3 := hf 3 _ rfl
      rw [show Tryz.prog.cellsOf 24 = 4 by kernel_rfl] at h
      exact h
    · have h : DataW.trod enc Tryz.prog W 0 (fun _ => true) true n 25 ((cs.drop 7).take (Tryz.prog.cellsOf 25)) = some y4 := hf 4 _ rfl
      rw [show Tryz.prog.cellsOf 25 = 1 by kernel_rfl] at h
      exact h
theorem fieldsS {fuel : Nat} {cs : List Value} {x : DataW H × List MemPlace} (h : DataW.trod enc Tryz.prog W 0 (fun _ => true) true fuel 33 cs = some x) :
    ∃ y0 y1 y2 y3 n, fuel = n + 1 ∧ x.1 = .agg [y0.1, y1.1, y2.1, y3.1] ∧ cs.length = 4 ∧ DataW.trod enc Tryz.prog W 0 (fun _ => true) true n 28 ((cs.drop 0).take 1) = some y0 ∧ DataW.trod enc Tryz.prog W 0 (fun _ => true) true n 29 ((cs.drop 1).take 1) = some y1 ∧ DataW.trod enc Tryz.prog W 0 (fun _ => true) true n 30 ((cs.drop 2).take 1) = some y2 ∧ DataW.trod enc Tryz.prog W 0 (fun _ => true) true n 31 ((cs.drop 3).take 1) = some y3 := by
  obtain ⟨xs, n, hn, rfl, hl, hlen, hf⟩ := DataW.trod_struct Tryz.underlying33 h
  match xs, hlen with
  | [y0, y1, y2, y3], _ =>
    refine ⟨y0, y1, y2, y3, n, hn, rfl, hl.trans (by kernel_rfl), ?_, ?_, ?_, ?_⟩
    · have h : DataW.trod enc Tryz.prog W 0 (fun _ => true) true n 28 ((cs.drop 0).take (Tryz.prog.cellsOf 28)) = some y0 := hf 0 _ rfl
      rw [show Tryz.prog.cellsOf 28 = 1 by kernel_rfl] at h
      exact h
    · have h : DataW.trod enc Tryz.prog W 0 (fun _ => true) true n 29 ((cs.drop 1).take (Tryz.prog.cellsOf 29)) = some y1 := hf 1 _ rfl
      rw [show Tryz.prog.cellsOf 29 = 1 by kernel_rfl] at h
      exact h
    · have h : DataW.trod enc Tryz.prog W 0 (fun _ => true) true n 30 ((cs.drop 2).take (Tryz.prog.cellsOf 30)) = some y2 := hf 2 _ rfl
      rw [show Tryz.prog.cellsOf 30 = 1 by kernel_rfl] at h
      exact h
    · have h : DataW.trod enc Tryz.prog W 0 (fun _ => true) true n 31 ((cs.drop 3).take (Tryz.prog.cellsOf 31)) = some y3 := hf 3 _ rfl
      rw [show Tryz.prog.cellsOf 31 = 1 by kernel_rfl] at h
      exact h
theorem val_at {fuel : Nat} {cs : List Value} {x : DataW H × List MemPlace} (h : DataW.trod enc Tryz.prog W 0 (fun _ => true) true fuel 24 cs = some x) :
    ∃ (v : Val) (A : Option Addr) (c : Nat), cs = [.int .i64 v.k, .int .i64 v.n, .string v.s, .slice A v.l.length c] ∧ Reads W W.heap.size 1 A v.l.length (numV .i64 v.l) ∧ v.l.length ≤ maxLen ∧ v.s.size ≤ maxLen := by
  obtain ⟨y0, y1, y2, y3, n, -, -, hl, h0, h1, h2, h3⟩ := fieldsV h
  obtain ⟨a, b, c, d, rfl⟩ := list4 hl
  obtain ⟨k, e0⟩ := int_at h0
  obtain ⟨m, e1⟩ := int_at h1
  obtain ⟨s, e2, hs⟩ := str_at' h2
  obtain ⟨A, l, c', e3, hr, hm⟩ := ints_at h3
  simp only [List.drop_zero, List.drop_succ_cons, List.take_succ_cons, List.take_zero, List.cons.injEq, and_true] at e0 e1 e2 e3
  subst e0 e1 e2 e3
  exact ⟨⟨k, m, s, l⟩, A, c', rfl, hr, hm, hs⟩
instance : Inhabited CellD := ⟨⟨.empty, 0, []⟩⟩
instance : Inhabited NestD := ⟨⟨.empty, []⟩⟩
instance : Inhabited BoundD := ⟨⟨.empty, [], ⟨0, 0, .empty, []⟩, false⟩⟩
instance : Inhabited RowD := ⟨⟨.empty, [], []⟩⟩
instance : Inhabited Ex := ⟨.mk 0 0 .empty ⟨0, 0, .empty, []⟩ []⟩
theorem cell_at {fuel : Nat} {cs : List Value} {x : DataW H × List MemPlace} (h : DataW.trod enc Tryz.prog W 0 (fun _ => true) true fuel 101 cs = some x) : ∃ d : CellD, CellAt W W.heap.size d cs ∧ d.loops.length ≤ Rows.uptoBulk x.1 := by
  obtain ⟨y0, y1, y2, n, -, hx, hl, h0, h1, h2⟩ := fieldsC h
  obtain ⟨a, b, c, rfl⟩ := list3 hl
  obtain ⟨s, e0, hs⟩ := str_at' h0
  obtain ⟨k, e1⟩ := int_at h1
  obtain ⟨A, l, c', e2, hr, hc, hm, hz, hb⟩ := strs_at h2
  simp only [List.drop_zero, List.drop_succ_cons, List.take_succ_cons, List.take_zero, List.cons.injEq, and_true] at e0 e1 e2
  subst e0 e1 e2
  refine ⟨⟨s, k, l⟩, ⟨⟨A, c', rfl, hr, hc⟩, hs, hm, hz⟩, ?_⟩
  rw [hx]
  simp only [Rows.uptoBulk, Rows.uptoBulkAll]
  show l.length ≤ _
  omega
theorem nest_at {fuel : Nat} {cs : List Value} {x : DataW H × List MemPlace} (h : DataW.trod enc Tryz.prog W 0 (fun _ => true) true fuel 97 cs = some x) : ∃ d : NestD, NestAt W W.heap.size d cs ∧ d.loops.length ≤ Rows.uptoBulk x.1 := by
  obtain ⟨y0, y1, n, -, hx, hl, h0, h1⟩ := fieldsN h
  obtain ⟨a, b, rfl⟩ := list2 hl
  obtain ⟨s, e0, hs⟩ := str_at' h0
  obtain ⟨A, l, c', e2, hr, hc, hm, hz, hb⟩ := strs_at h1
  simp only [List.drop_zero, List.drop_succ_cons, List.take_succ_cons, List.take_zero, List.cons.injEq, and_true] at e0 e2
  subst e0 e2
  refine ⟨⟨s, l⟩, ⟨⟨A, c', rfl, hr, hc⟩, hs, hm, hz⟩, ?_⟩
  rw [hx]
  simp only [Rows.uptoBulk, Rows.uptoBulkAll]
  show l.length ≤ _
  omega
theorem bound_at {fuel : Nat} {cs : List Value} {x : DataW H × List MemPlace} (h : DataW.trod enc Tryz.prog W 0 (fun _ => true) true fuel 88 cs = some x) : ∃ d : BoundD, BoundAt W W.heap.size d cs ∧ 0 ≤ Rows.uptoBulk x.1 := by
  obtain ⟨y0, y1, y2, y3, n, -, hx, hl, h0, h1, h2, h3⟩ := fieldsB h
  obtain ⟨a, b, c, d, e, f, g, rfl⟩ := list7 hl
  obtain ⟨s, e0, hs⟩ := str_at' h0
  obtain ⟨A, l, c1, e1, hr, hm⟩ := ints_at h1
  obtain ⟨v, A2, c2, e2, hr2, hl2, hs2⟩ := val_at h2
  obtain ⟨q, e3⟩ := bool_at h3
  simp only [List.drop_zero, List.drop_succ_cons, List.take_succ_cons, List.take_zero, List.cons.injEq, and_true] at e0 e1 e2 e3
  obtain ⟨e2a, e2b, e2c, e2d⟩ := e2
  subst e0 e1 e2a e2b e2c e2d e3
  exact ⟨⟨s, l, v, q⟩, ⟨⟨A, c1, A2, c2, rfl, hr, hr2⟩, hs, hm, hs2, hl2⟩, Nat.zero_le _⟩
theorem row_at {fuel : Nat} {cs : List Value} {x : DataW H × List MemPlace} (h : DataW.trod enc Tryz.prog W 0 (fun _ => true) true fuel 92 cs = some x) : ∃ d : RowD, RowAt W W.heap.size d cs ∧ 0 ≤ Rows.uptoBulk x.1 := by
  obtain ⟨y0, y1, y2, n, -, hx, hl, h0, h1, h2⟩ := fieldsR h
  obtain ⟨a, b, c, rfl⟩ := list3 hl
  obtain ⟨s, e0, hs⟩ := str_at' h0
  obtain ⟨A, l, c1, e1, hr, hm⟩ := ints_at h1
  obtain ⟨A2, l2, c2, e2, hr2, hm2⟩ := ints_at h2
  simp only [List.drop_zero, List.drop_succ_cons, List.take_succ_cons, List.take_zero, List.cons.injEq, and_true] at e0 e1 e2
  subst e0 e1 e2
  exact ⟨⟨s, l, l2⟩, ⟨⟨A, c1, A2, c2, rfl, hr, hr2⟩, hs, hm, hm2⟩, Nat.zero_le _⟩
/-- an expression, by induction on the depth of its reading -/
theorem expr_at : ∀ (fuel : Nat) (cs : List Value) (x : DataW H × List MemPlace), DataW.trod enc Tryz.prog W 0 (fun _ => true) true fuel 27 cs = some x → ∃ e : Ex, ExAt W W.heap.size e cs ∧ 2 * e.parts ≤ Rows.uptoBulk x.1 := by
  intro fuel
  induction fuel using Nat.strongRecOn with
  | _ fuel ih =>
    intro cs x h
    obtain ⟨y0, y1, y2, y3, y4, n, hfu, hx, hl, h0, h1, h2, h3, h4⟩ := fieldsE h
    obtain ⟨a, b, c, d, e, f, g, i, rfl⟩ := list8 hl
    obtain ⟨k, e0⟩ := int_at h0
    obtain ⟨op, e1⟩ := int_at h1
    obtain ⟨s, e2, hs⟩ := str_at' h2
    obtain ⟨v, A2, c2, e3, hr2, hl2, hs2⟩ := val_at h3
    obtain ⟨A', ar, c', e4, hL, hc, hsum, -⟩ := open_structs (α := Ex) (Pd := fun w B e cs => ExAt w B e cs) (μ := fun e => 2 * e.parts) Tryz.underlying25 (show Tryz.prog.cellsOf 27 = 8 by kernel_rfl) (by decide) (fun m cs' y hm h' => ih m (by omega) cs' y h') h4
    simp only [List.drop_zero, List.drop_succ_cons, List.take_succ_cons, List.take_zero, List.cons.injEq, and_true] at e0 e1 e2 e3 e4
    obtain ⟨e3a, e3b, e3c, e3d⟩ := e3
    subst e0 e1 e2 e3a e3b e3c e3d e4
    obtain ⟨hm, cs', hr, hi⟩ := hL
    refine ⟨.mk k op s v ar, ExAt.mk (e := .mk k op s v ar) hs hs2 hl2 hm hr2 hr hi, ?_⟩
    rw [parts_eq, hx]
    simp only [Rows.uptoBulk, Rows.uptoBulkAll]
    show 2 * (partsL ar + 1) ≤ _
    rw [parts2_sum] at hsum
    omega
theorem scene_at {fuel : Nat} {cs : List Value} {x : DataW H × List MemPlace} (h : DataW.trod enc Tryz.prog W 0 (fun _ => true) true fuel 33 cs = some x) :
    ∃ (cells : List CellD) (loops : List NestD) (bounds : List BoundD) (rows : List RowD) (AC AN AB AR : Option Addr) (cc cn cb cr : Nat), cs = [.slice AC cells.length cc, .slice AN loops.length cn, .slice AB bounds.length cb, .slice AR rows.length cr] ∧
      CellsAt W W.heap.size AC cells ∧ NestsAt W W.heap.size AN loops ∧ BoundsAt W W.heap.size AB bounds ∧ RowssAt W W.heap.size AR rows ∧ cells.length ≤ cc ∧ loops.length ≤ cn ∧ (∀ d ∈ cells, d.loops.length ≤ Rows.uptoBulk x.1) ∧ (∀ d ∈ loops, d.loops.length ≤ Rows.uptoBulk x.1) := by
  obtain ⟨y0, y1, y2, y3, n, -, hx, hl, h0, h1, h2, h3⟩ := fieldsS h
  obtain ⟨a, b, c, d, rfl⟩ := list4 hl
  obtain ⟨AC, cells, cc, e0, hC, hcc, hsC, -⟩ := open_structs (α := CellD) (Pd := CellAt) (μ := fun d => d.loops.length) Tryz.underlying28 (show Tryz.prog.cellsOf 101 = 3 by kernel_rfl) (by decide) (fun _ _ _ _ h' => cell_at h') h0
  obtain ⟨AN, loops, cn, e1, hN, hcn, hsN, -⟩ := open_structs (α := NestD) (Pd := NestAt) (μ := fun d => d.loops.length) Tryz.underlying29 (show Tryz.prog.cellsOf 97 = 2 by kernel_rfl) (by decide) (fun _ _ _ _ h' => nest_at h') h1
  obtain ⟨AB, bounds, cb, e2, hB, -, -, -⟩ := open_structs (α := BoundD) (Pd := BoundAt) (μ := fun _ => 0) Tryz.underlying30 (show Tryz.prog.cellsOf 88 = 7 by kernel_rfl) (by decide) (fun _ _ _ _ h' => bound_at h') h2
  obtain ⟨AR, rows, cr, e3, hR, -, -, -⟩ := open_structs (α := RowD) (Pd := RowAt) (μ := fun _ => 0) Tryz.underlying31 (show Tryz.prog.cellsOf 92 = 3 by kernel_rfl) (by decide) (fun _ _ _ _ h' => row_at h') h3
  simp only [List.drop_zero, List.drop_succ_cons, List.take_succ_cons, List.take_zero, List.cons.injEq, and_true] at e0 e1 e2 e3
  subst e0 e1 e2 e3
  refine ⟨cells, loops, bounds, rows, AC, AN, AB, AR, cc, cn, cb, cr, rfl, hC, hN, hB, hR, hcc, hcn, fun d hd => ?_, fun d hd => ?_⟩
  · have := mem_sum (f := fun d : CellD => d.loops.length) hd
    rw [hx]
    simp only [Rows.uptoBulk, Rows.uptoBulkAll]
    omega
  · have := mem_sum (f := fun d : NestD => d.loops.length) hd
    rw [hx]
    simp only [Rows.uptoBulk, Rows.uptoBulkAll]
    omega
end
end Go.Proofs.YtpanbeoelbhhgaaGreatDoor
namespace Go.Proofs.YtpanbeoelbhhgaaGreatDoor
open Go.Deep Go.ChangeShapes Go.WideShapes Go.ChangeAt Go.RowKit Go.Joins
section
variable {H : Type} {enc : TypeId × Value → H} {W : World}
theorem row_ints {fuel : Nat} {cs : List Value} {x : DataW H × List MemPlace} (h : DataW.trod enc Tryz.prog W 0 (fun _ => true) true fuel 22 cs = some x) :
    ∃ (A : Option Addr) (l : List Int) (c : Nat), cs = [.slice A l.length c] ∧ Reads W W.heap.size 1 A l.length (numV .i64 l) ∧ l.length ≤ c ∧ l.length ≤ maxLen ∧ l.length + 1 ≤ Rows.uptoBulk x.1 := by
  rcases open_ints Tryz.underlying22 Tryz.underlying3 (by kernel_rfl) h with ⟨rfl, rfl⟩ | ⟨a, len, cap, zs, rfl, -, hl, hm, hz, rfl, hcell, hwz⟩
  · exact ⟨none, [], 0, rfl, Reads.none_, by simp, by simp, by simp [Rows.uptoBulk]⟩
  · simp only [if_true] at hz
    have e : (zs.take len).length = len := by simp; omega
    refine ⟨some a, zs.take len, cap, by rw [e], ?_, by rw [e]; exact hl, by rw [e]; omega, ?_⟩
    · rw [e]
      refine ⟨by rw [numV_len]; omega, fun h0 => ?_⟩
      have h1 := hcell 0 (by omega)
      refine ⟨a, rfl, by have := block_lt_of_cell h1; rwa [block_of_add] at this, fun j u hu => ?_⟩
      obtain ⟨hj, rfl⟩ := numV_get _ _ _ _ hu
      have hj' : j < zs.length := by rw [e] at hj; omega
      rw [hcell j hj']
      simp [List.getD, hj']
    · show _ ≤ Rows.uptoBulk (DataW.slice (lits .i64 (zs.take len)) (lits .i64 (zs.drop len)))
      rw [Rows.uptoBulk]
      have := bulk_len (H := H) (lits .i64 (zs.take len))
      rw [show (lits (H := H) .i64 (zs.take len)).length = (zs.take len).length by simp [lits]] at this
      omega
end
end Go.Proofs.YtpanbeoelbhhgaaGreatDoor
namespace Go.Proofs.YtpanbeoelbhhgaaGreatDoor
open Go.RowKit
attribute [local go_sem ↓] Go.wp_at_zero Go.wp_at_succ
abbrev w6 (x : Int) : Int := IntKind.u64.wrap x
theorem w6_range (x : Int) : 0 ≤ w6 x ∧ w6 x < 18446744073709551616 := by
  simp [w6, IntKind.wrap, IntKind.signed, IntKind.bits]; omega
def dLoop (a b c : Int) : Nat → Int → Int → Int × Int
  | 0, q, r => (q, r)
  | n + 1, q, r => if 4294967296 ≤ q ∨ w6 (w6 (4294967296 * r) + c) < w6 (q * b) then
      (if 4294967296 ≤ w6 (r + a) then (w6 (q - 1), w6 (r + a)) else dLoop a b c n (w6 (q - 1)) (w6 (r + a))) else (q, r)
def dMu (r : Int) : Nat := if r < 4294967296 then (4294967296 - r).toNat else 4294967297
theorem dMu_step {r a : Int} (h0 : 0 ≤ r) (h1 : r < 18446744073709551616) (ha : 0 < a) (hb : a < 4294967296) (hn : ¬ 4294967296 ≤ w6 (r + a)) : dMu (w6 (r + a)) < dMu r := by
  have hw := w6_range (r + a)
  unfold dMu
  rw [if_pos (by omega)]
  by_cases h : r < 4294967296
  · rw [if_pos h]
    have e : w6 (r + a) = r + a := by simp [w6, IntKind.wrap, IntKind.signed, IntKind.bits]; omega
    rw [e] at hn ⊢
    omega
  · rw [if_neg h]; omega
theorem norm64 {y s : Nat} (h0 : 0 < y) (h : y < 18446744073709551616) (hs : 64 - (Lib.bitLen ((y : Int)).toNat : Int) = (s : Int)) : s < 64 ∧ 0 < w6 ((y : Int) * 2 ^ s) / 4294967296 ∧ w6 ((y : Int) * 2 ^ s) / 4294967296 < 4294967296 := by
  have hb := Lib.bitLenAux_bounds 64 y h (by omega)
  have e0 : Lib.bitLen ((y : Int)).toNat = Lib.bitLenAux 64 y := by rw [Int.toNat_natCast]; rfl
  rw [e0] at hs
  generalize Lib.bitLenAux 64 y = b at hb hs
  obtain ⟨b1, b2, b3⟩ := hb
  have hb64 : b ≤ 64 := by
    rcases Nat.lt_or_ge 64 b with h6 | h6
    · have : 2 ^ 64 ≤ 2 ^ (b - 1) := Nat.pow_le_pow_right (by decide) (by omega)
      have e : (2 : Nat) ^ 64 = 18446744073709551616 := by decide
      omega
    · exact h6
  have hs' : s = 64 - b := by omega
  have hlo : 2 ^ 63 ≤ y * 2 ^ s := by
    have := Nat.mul_le_mul_right (2 ^ s) b2
    rw [← Nat.pow_add, show b - 1 + s = 63 by omega] at this
    exact this
  have hhi : y * 2 ^ s < 2 ^ 64 := by
    have := (Nat.mul_lt_mul_right (Nat.two_pow_pos s)).2 b3
    rw [← Nat.pow_add, show b + s = 64 by omega] at this
    exact this
  have e : ((y : Int) * 2 ^ s) = ((y * 2 ^ s : Nat) : Int) := by push_cast; rfl
  rw [e]
  have c1 : (2 : Nat) ^ 63 = 9223372036854775808 := by decide
  have c2 : (2 : Nat) ^ 64 = 18446744073709551616 := by decide
  have ew : w6 ((y * 2 ^ s : Nat) : Int) = ((y * 2 ^ s : Nat) : Int) := by
    generalize y * 2 ^ s = z at hlo hhi
    simp [w6, IntKind.wrap, IntKind.signed, IntKind.bits]; omega
  rw [ew]
  generalize y * 2 ^ s = z at hlo hhi
  refine ⟨by omega, by omega, by omega⟩
set_option maxHeartbeats 4000000 in
set_option maxRecDepth 100000 in
theorem div64_ex (hi lo y : Nat) (h1 : hi < y) (h2 : y < 18446744073709551616) (h3 : lo < 18446744073709551616) :
    ∃ R : Int × Int, 0 ≤ R.1 ∧ R.1 < 18446744073709551616 ∧ 0 ≤ R.2 ∧ R.2 < 18446744073709551616 ∧ ∀ w, Calls Tryz.prog 165 #[.int .u64 (hi : Int), .int .u64 (lo : Int), .int .u64 (y : Int)] w fun e w' => e = .returned (.tuple #[.int .u64 R.1, .int .u64 R.2]) ∧ Below w.heap.size w w' := by
  have b0 : ((y : Int) == 0) = false := by simp; omega
  have b1 : ¬ ((y : Int) ≤ (hi : Int)) := by omega
  by_cases h0 : hi = 0
  · subst h0
    have b5 : ¬ ((y : Int) = 0) := by omega
    refine ⟨(w6 ((lo : Int).tdiv y), (lo : Int) % y), (w6_range _).1, (w6_range _).2, Int.emod_nonneg _ b5, Int.lt_trans (Int.emod_lt_of_pos _ (by omega)) (by omega), fun w => ?_⟩
    go_enter Tryz.func165, Tryz.ntmps165
    go_wp2_with fail
    go_region
    all_goals go_wp2_with fail
    all_goals exact bodyPost_ret (v := .tuple #[.int .u64 (w6 ((lo : Int).tdiv y)), .int .u64 ((lo : Int) % y)]) (by simp [results, Tryz.results165, go_sem]) rfl ⟨rfl, (Below.refl _ _).drew⟩
  have b2 : ((hi : Int) == 0) = false := by simp; omega
  obtain ⟨s, hs⟩ : ∃ s : Nat, 64 - (Lib.bitLen ((y : Int)).toNat : Int) = (s : Int) := by
    have : Lib.bitLen ((y : Int)).toNat ≤ 64 := by rw [Int.toNat_natCast]; exact Lib.bitLen_le y 64 (Nat.le_refl _) (by have e : (2 : Nat) ^ 64 = 18446744073709551616 := by decide
                                                                                                                        omega)
    exact ⟨64 - Lib.bitLen ((y : Int)).toNat, by omega⟩
  obtain ⟨n1, n2, n3⟩ := norm64 (by omega) h2 hs
  obtain ⟨Y, hY⟩ : ∃ Y, IntKind.u64.wrap ((y : Int) * 2 ^ s) = Y := ⟨_, rfl⟩
  rw [show w6 ((y : Int) * 2 ^ s) = Y from hY] at n2 n3
  obtain ⟨a, ha⟩ : ∃ a, Y / 4294967296 = a := ⟨_, rfl⟩
  rw [ha] at n2 n3
  obtain ⟨b, hb⟩ : ∃ b, bits BinOp.and IntKind.u64 Y 4294967295 = b := ⟨_, rfl⟩
  obtain ⟨U, hU⟩ : ∃ U, bits BinOp.or IntKind.u64 (IntKind.u64.wrap ((hi : Int) * 2 ^ s)) ((lo : Int) / 2 ^ (64 - s)) = U := ⟨_, rfl⟩
  obtain ⟨L, hL⟩ : ∃ L, IntKind.u64.wrap ((lo : Int) * 2 ^ s) = L := ⟨_, rfl⟩
  obtain ⟨c1, hc1⟩ : ∃ c, L / 4294967296 = c := ⟨_, rfl⟩
  obtain ⟨c0, hc0⟩ : ∃ c, bits BinOp.and IntKind.u64 L 4294967295 = c := ⟨_, rfl⟩
  obtain ⟨q1, hq1⟩ : ∃ q, IntKind.u64.wrap (U.tdiv a) = q := ⟨_, rfl⟩
  obtain ⟨r1, hr1⟩ : ∃ r, IntKind.u64.wrap (U - IntKind.u64.wrap (q1 * a)) = r := ⟨_, rfl⟩
  have hr1b := w6_range (U - IntKind.u64.wrap (q1 * a))
  rw [show w6 (U - IntKind.u64.wrap (q1 * a)) = r1 from hr1] at hr1b
  obtain ⟨⟨P1, R1⟩, hP⟩ : ∃ P, dLoop a b c1 (dMu r1) q1 r1 = P := ⟨_, rfl⟩
  obtain ⟨V, hV⟩ : ∃ V, IntKind.u64.wrap (IntKind.u64.wrap (IntKind.u64.wrap (U * 4294967296) + c1) - IntKind.u64.wrap (P1 * Y)) = V := ⟨_, rfl⟩
  obtain ⟨q0, hq0⟩ : ∃ q, IntKind.u64.wrap (V.tdiv a) = q := ⟨_, rfl⟩
  obtain ⟨r0, hr0⟩ : ∃ r, IntKind.u64.wrap (V - IntKind.u64.wrap (q0 * a)) = r := ⟨_, rfl⟩
  have hr0b := w6_range (V - IntKind.u64.wrap (q0 * a))
  rw [show w6 (V - IntKind.u64.wrap (q0 * a)) = r0 from hr0] at hr0b
  obtain ⟨⟨P2, R2⟩, hP2⟩ : ∃ P, dLoop a b c0 (dMu r0) q0 r0 = P := ⟨_, rfl⟩
  have hna : ¬ (a = 0) := by omega
  have HL1 := Lib.hid hP
  have HL2 := Lib.hid hP2
  have HA := Lib.hid (And.intro n2 n3)
  have HR0 := Lib.hid hr0b
  refine ⟨(w6 (w6 (P1 * 4294967296) + P2), w6 (w6 (w6 (V * 4294967296) + c0) - w6 (P2 * Y)) / 2 ^ s), (w6_range _).1, (w6_range _).2, ?_, ?_, fun w => ?_⟩
  · exact Int.ediv_nonneg (w6_range _).1 (Int.le_of_lt (Int.pow_pos (by decide)))
  · exact Int.lt_of_le_of_lt (Int.ediv_le_self _ (w6_range _).1) (w6_range _).2
  have HLZ := Lib.hid (Tryz.bits_LeadingZeros64 (y : Int) w (by omega) (by omega))
  rw [hs] at HLZ
  clear hs hP hP2 hr0b
  go_enter Tryz.func165, Tryz.ntmps165
  go_wp2_with (go_at_call 195; refine HLZ.out.mono ?_; rintro e wq ⟨rfl, rfl⟩)
  go_loopw [15, 16] (fun x15 x16 wr => ∃ n q r, x15 = .int .u64 q ∧ x16 = .int .u64 r ∧ wr = wq ∧ 0 ≤ r ∧ r < 18446744073709551616 ∧ dMu r ≤ n ∧ Hid (dLoop a b c1 n q r = (P1, R1))) (fun _ x16 _ => dMu (intOf x16))
  case atStart => exact ⟨_, _, _, rfl, rfl, rfl, hr1b.1, hr1b.2, Nat.le_refl _, HL1⟩
  case round =>
    obtain ⟨n, q, r, rfl, rfl, rfl, hr, hr', hmu, HP⟩ := hrel
    clear hr1b
    have h1n : 1 ≤ dMu r := by unfold dMu; split <;> omega
    obtain ⟨n, rfl⟩ : ∃ k, n = k + 1 := ⟨n - 1, by omega⟩
    by_cases hc : 4294967296 ≤ q ∨ w6 (w6 (4294967296 * r) + c1) < w6 (q * b)
    rotate_left
    have HP2 := Lib.hid ((show dLoop a b c1 (n + 1) q r = (q, r) from by rw [dLoop, if_neg hc]).symm.trans HP.out)
    obtain ⟨rfl, rfl⟩ := Prod.mk.inj HP2.out
    have hq : ¬ 4294967296 ≤ q := fun h => hc (.inl h)
    have hq2 : ¬ IntKind.u64.wrap (IntKind.u64.wrap (4294967296 * r) + c1) < IntKind.u64.wrap (q * b) := fun h => hc (.inr h)
    clear hc hmu h1n
    focus (go_upto_region 21 with (fail))
    clear hq hq2
    rotate_left
    replace HP := Lib.hid ((show dLoop a b c1 (n + 1) q r = _ from by rw [dLoop, if_pos hc]).symm.trans HP.out)
    have HMU := Lib.hid hmu
    clear hmu h1n
    have hv := w6_range (r + a)
    have hqq : ¬ 4294967296 ≤ q → IntKind.u64.wrap (IntKind.u64.wrap (4294967296 * r) + c1) < IntKind.u64.wrap (q * b) := fun h => hc.resolve_left h
    clear hc
    by_cases hq : 4294967296 ≤ q
    clear hqq
    by_cases hv2 : 4294967296 ≤ w6 (r + a)
    have hv3 : 4294967296 ≤ IntKind.u64.wrap (r + a) := hv2
    have HP2 := Lib.hid ((if_pos hv2).symm.trans HP.out)
    have hp1 : IntKind.u64.wrap (q - 1) = _ := (Prod.mk.inj HP2.out).1
    clear hv2
    focus (go_upto_region 21 with (fail))
    clear hv3 hp1 hv hq HMU
    rotate_left
    · have hv3 : ¬ 4294967296 ≤ IntKind.u64.wrap (r + a) := hv2
      have HP2 := Lib.hid ((if_neg hv2).symm.trans HP.out)
      have HM := Lib.hid (show dMu (IntKind.u64.wrap (r + a)) < dMu r from dMu_step hr hr' HA.out.1 HA.out.2 hv2)
      go_wp2_with fail
      go_roundw
      case rel => exact ⟨n, _, _, rfl, rfl, trivial, hv.1, hv.2, by have := HM.out; have := HMU.out; omega, HP2⟩
      case measure => simpa [intOf] using HM.out
    replace hqq := hqq hq
    skip
    by_cases hv2 : 4294967296 ≤ w6 (r + a)
    have hv3 : 4294967296 ≤ IntKind.u64.wrap (r + a) := hv2
    have HP2 := Lib.hid ((if_pos hv2).symm.trans HP.out)
    have hp1 : IntKind.u64.wrap (q - 1) = _ := (Prod.mk.inj HP2.out).1
    clear hv2
    focus (go_upto_region 21 with (fail))
    clear hv3 hp1 hv hq HMU
    rotate_left
    · have hv3 : ¬ 4294967296 ≤ IntKind.u64.wrap (r + a) := hv2
      have HP2 := Lib.hid ((if_neg hv2).symm.trans HP.out)
      have HM := Lib.hid (show dMu (IntKind.u64.wrap (r + a)) < dMu r from dMu_step hr hr' HA.out.1 HA.out.2 hv2)
      go_wp2_with fail
      go_roundw
      case rel => exact ⟨n, _, _, rfl, rfl, trivial, hv.1, hv.2, by have := HM.out; have := HMU.out; omega, HP2⟩
      case measure => simpa [intOf] using HM.out
    all_goals
      clear HP hr hr'
      go_upto_region 24 with (fail)
      clear HP2
      go_loopw [18, 16] (fun x15 x16 w8 => ∃ n q r, x15 = .int .u64 q ∧ x16 = .int .u64 r ∧ w8 = wr ∧ 0 ≤ r ∧ r < 18446744073709551616 ∧ dMu r ≤ n ∧ Hid (dLoop a b c0 n q r = (P2, R2))) (fun _ x16 _ => dMu (intOf x16))
      case atStart => exact ⟨_, _, _, rfl, rfl, rfl, HR0.out.1, HR0.out.2, Nat.le_refl _, HL2⟩
      case round =>
        obtain ⟨n, q, r, rfl, rfl, rfl, hr, hr', hmu, HP⟩ := hrel
        have h1n : 1 ≤ dMu r := by unfold dMu; split <;> omega
        obtain ⟨n, rfl⟩ : ∃ k, n = k + 1 := ⟨n - 1, by omega⟩
        by_cases hc : 4294967296 ≤ q ∨ w6 (w6 (4294967296 * r) + c0) < w6 (q * b)
        rotate_left
        have HP2 := Lib.hid ((show dLoop a b c0 (n + 1) q r = (q, r) from by rw [dLoop, if_neg hc]).symm.trans HP.out)
        obtain ⟨rfl, rfl⟩ := Prod.mk.inj HP2.out
        have hq : ¬ 4294967296 ≤ q := fun h => hc (.inl h)
        have hq2 : ¬ IntKind.u64.wrap (IntKind.u64.wrap (4294967296 * r) + c0) < IntKind.u64.wrap (q * b) := fun h => hc (.inr h)
        clear hc hmu h1n
        focus (go_upto_region 28 with (fail))
        clear hq hq2
        rotate_left
        replace HP := Lib.hid ((show dLoop a b c0 (n + 1) q r = _ from by rw [dLoop, if_pos hc]).symm.trans HP.out)
        have HMU := Lib.hid hmu
        clear hmu h1n
        have hv := w6_range (r + a)
        have hqq : ¬ 4294967296 ≤ q → IntKind.u64.wrap (IntKind.u64.wrap (4294967296 * r) + c0) < IntKind.u64.wrap (q * b) := fun h => hc.resolve_left h
        clear hc
        by_cases hq : 4294967296 ≤ q
        clear hqq
        by_cases hv2 : 4294967296 ≤ w6 (r + a)
        have hv3 : 4294967296 ≤ IntKind.u64.wrap (r + a) := hv2
        have HP2 := Lib.hid ((if_pos hv2).symm.trans HP.out)
        have hp1 : IntKind.u64.wrap (q - 1) = _ := (Prod.mk.inj HP2.out).1
        clear hv2
        focus (go_upto_region 28 with (fail))
        clear hv3 hp1 hv hq HMU
        rotate_left
        · have hv3 : ¬ 4294967296 ≤ IntKind.u64.wrap (r + a) := hv2
          have HP2 := Lib.hid ((if_neg hv2).symm.trans HP.out)
          have HM := Lib.hid (show dMu (IntKind.u64.wrap (r + a)) < dMu r from dMu_step hr hr' HA.out.1 HA.out.2 hv2)
          go_wp2_with fail
          go_roundw
          case rel => exact ⟨n, _, _, rfl, rfl, trivial, hv.1, hv.2, by have := HM.out; have := HMU.out; omega, HP2⟩
          case measure => simpa [intOf] using HM.out
        replace hqq := hqq hq
        by_cases hv2 : 4294967296 ≤ w6 (r + a)
        have hv3 : 4294967296 ≤ IntKind.u64.wrap (r + a) := hv2
        have HP2 := Lib.hid ((if_pos hv2).symm.trans HP.out)
        have hp1 : IntKind.u64.wrap (q - 1) = _ := (Prod.mk.inj HP2.out).1
        clear hv2
        focus (go_upto_region 28 with (fail))
        clear hv3 hp1 hv hq HMU
        rotate_left
        · have hv3 : ¬ 4294967296 ≤ IntKind.u64.wrap (r + a) := hv2
          have HP2 := Lib.hid ((if_neg hv2).symm.trans HP.out)
          have HM := Lib.hid (show dMu (IntKind.u64.wrap (r + a)) < dMu r from dMu_step hr hr' HA.out.1 HA.out.2 hv2)
          go_wp2_with fail
          go_roundw
          case rel => exact ⟨n, _, _, rfl, rfl, trivial, hv.1, hv.2, by have := HM.out; have := HMU.out; omega, HP2⟩
          case measure => simpa [intOf] using HM.out
        all_goals
          clear HP HP2 hr hr'
          go_wp2_with fail
          go_ret2
          exact ⟨rfl, Below.refl _ _⟩
noncomputable def div64F (hi lo y : Nat) : Int × Int := if h : hi < y ∧ y < 18446744073709551616 ∧ lo < 18446744073709551616 then (div64_ex hi lo y h.1 h.2.1 h.2.2).choose else (0, 0)
theorem div64_any (hi lo y : Nat) (h1 : hi < y) (h2 : y < 18446744073709551616) (h3 : lo < 18446744073709551616) :
    0 ≤ (div64F hi lo y).1 ∧ (div64F hi lo y).1 < 18446744073709551616 ∧ 0 ≤ (div64F hi lo y).2 ∧ (div64F hi lo y).2 < 18446744073709551616 ∧ ∀ w, Calls Tryz.prog 165 #[.int .u64 (hi : Int), .int .u64 (lo : Int), .int .u64 (y : Int)] w fun e w' => e = .returned (.tuple #[.int .u64 (div64F hi lo y).1, .int .u64 (div64F hi lo y).2]) ∧ Below w.heap.size w w' := by
  have e : div64F hi lo y = (div64_ex hi lo y h1 h2 h3).choose := by unfold div64F; rw [dif_pos ⟨h1, h2, h3⟩]
  rw [e]
  exact (div64_ex hi lo y h1 h2 h3).choose_spec
end Go.Proofs.YtpanbeoelbhhgaaGreatDoor
namespace Go.Proofs.YtpanbeoelbhhgaaGreatDoor.Cal
def lp (y : Int) : Bool := (decide (y % 4 = 0) && decide (y % 100 ≠ 0)) || decide (y % 400 = 0)
def dim (y m : Int) : Int := if m = 2 then (if lp y = true then 29 else 28) else if m = 4 ∨ m = 6 ∨ m = 9 ∨ m = 11 then 30 else 31
def yd (y : Int) : Int := if lp y = true then 366 else 365
def base (y : Int) : Int := 365 * (y - 1970) + ((y - 1) / 4 - (y - 1) / 100 + (y - 1) / 400) - 477
def fb (y : Int) : Int := if lp y = true then 29 else 28
/-- the days of a year ahead of month m -/
def cum (y m : Int) : Int :=
  if m ≤ 1 then 0 else if m = 2 then 31 else if m = 3 then 31 + fb y else if m = 4 then 62 + fb y else if m = 5 then 92 + fb y else if m = 6 then 123 + fb y else
  if m = 7 then 153 + fb y else if m = 8 then 184 + fb y else if m = 9 then 215 + fb y else if m = 10 then 245 + fb y else if m = 11 then 276 + fb y else if m = 12 then 306 + fb y else 337 + fb y
def num (y m d : Int) : Int := base y + cum y m + d - 1
theorem lp_cases (y : Int) : (lp y = true ∧ (y % 4 = 0 ∧ y % 100 ≠ 0 ∨ y % 400 = 0)) ∨ (lp y = false ∧ ¬ (y % 4 = 0 ∧ y % 100 ≠ 0 ∨ y % 400 = 0)) := by
  unfold lp
  by_cases a : y % 4 = 0 <;> by_cases b : y % 100 = 0 <;> by_cases c : y % 400 = 0 <;> simp [a, b, c] <;> omega
theorem base_succ (y : Int) : base (y + 1) = base y + yd y := by
  unfold base yd
  rcases lp_cases y with ⟨h, e⟩ | ⟨h, e⟩
  · rw [if_pos h]; omega
  · rw [if_neg (by rw [h]; simp)]; omega
theorem base_1900 : base 1900 = -25567 := by decide
theorem base_2200 : base 2200 = 84006 := by decide
theorem base_mono {a b : Int} (h : a ≤ b) : base a ≤ base b := by unfold base; omega
theorem fb_cases (y : Int) : (fb y = 29 ∧ yd y = 366 ∧ lp y = true) ∨ (fb y = 28 ∧ yd y = 365 ∧ lp y = false) := by
  unfold fb yd
  cases h : lp y <;> simp
theorem cum_succ (y m : Int) (h1 : 1 ≤ m) (h2 : m ≤ 12) : cum y (m + 1) = cum y m + dim y m := by
  have : m = 1 ∨ m = 2 ∨ m = 3 ∨ m = 4 ∨ m = 5 ∨ m = 6 ∨ m = 7 ∨ m = 8 ∨ m = 9 ∨ m = 10 ∨ m = 11 ∨ m = 12 := by omega
  rcases fb_cases y with ⟨hf, -, hl⟩ | ⟨hf, -, hl⟩ <;> rcases this with rfl | rfl | rfl | rfl | rfl | rfl | rfl | rfl | rfl | rfl | rfl | rfl <;> simp [cum, dim, hf, hl]
theorem cum_one (y : Int) : cum y 1 = 0 := by simp [cum]
theorem cum_13 (y : Int) : cum y 13 = yd y := by
  rcases fb_cases y with ⟨hf, hy, -⟩ | ⟨hf, hy, -⟩ <;> simp [cum, hf, hy]
theorem dim_bd (y m : Int) : 28 ≤ dim y m ∧ dim y m ≤ 31 := by unfold dim; repeat' split <;> omega
theorem cum_bd (y m : Int) : 0 ≤ cum y m ∧ cum y m ≤ 366 := by
  rcases fb_cases y with ⟨hf, -, -⟩ | ⟨hf, -, -⟩ <;> unfold cum <;> rw [hf] <;> repeat' split <;> omega
theorem cum_mono (y : Int) {a b : Int} (h : a ≤ b) (h1 : 1 ≤ a) (h2 : b ≤ 13) : cum y a ≤ cum y b := by
  obtain ⟨k, hk⟩ : ∃ k : Nat, b = a + k := ⟨(b - a).toNat, by omega⟩
  subst hk
  clear h
  induction k with
  | zero => simp
  | succ k ih =>
    have e := cum_succ y (a + k) (by omega) (by omega)
    have d := dim_bd y (a + k)
    have := ih (by omega)
    rw [show a + ((k + 1 : Nat) : Int) = a + k + 1 from by omega]
    omega
theorem base_bd (y : Int) (h1 : 1600 ≤ y) (h2 : y ≤ 2400) : -136000 ≤ base y ∧ base y ≤ 158000 := by unfold base; omega
structure IsCivil (n y m d : Int) : Prop where
  m1 : 1 ≤ m
  m2 : m ≤ 12
  d1 : 1 ≤ d
  d2 : d ≤ dim y m
  eq : num y m d = n
theorem IsCivil.year {n y m d : Int} (h : IsCivil n y m d) : base y ≤ n ∧ n < base (y + 1) := by
  have hc := cum_bd y m
  have hs := cum_succ y m h.m1 h.m2
  have hm := cum_mono y (show m + 1 ≤ 13 by have := h.m2; omega) (by have := h.m1; omega) (by omega)
  have h13 := cum_13 y
  have hb := base_succ y
  have := h.eq
  have := h.d1
  have := h.d2
  unfold num at *
  omega
theorem IsCivil.unique {n y m d y' m' d' : Int} (h : IsCivil n y m d) (h' : IsCivil n y' m' d') : y = y' ∧ m = m' ∧ d = d' := by
  have hy : y = y' := by
    have a := h.year
    have b := h'.year
    rcases Int.lt_trichotomy y y' with l | l | l
    · have := base_mono (show y + 1 ≤ y' by omega); omega
    · exact l
    · have := base_mono (show y' + 1 ≤ y by omega); omega
  subst hy
  have hm : m = m' := by
    have a := cum_succ y m h.m1 h.m2
    have b := cum_succ y m' h'.m1 h'.m2
    have := h.eq
    have := h.d1
    have := h.d2
    have := h'.eq
    have := h'.d1
    have := h'.d2
    unfold num at *
    rcases Int.lt_trichotomy m m' with l | l | l
    · have := cum_mono y (show m + 1 ≤ m' by omega) (by have := h.m1; omega) (by have := h'.m2; omega); omega
    · exact l
    · have := cum_mono y (show m' + 1 ≤ m by omega) (by have := h'.m1; omega) (by have := h.m2; omega); omega
  subst hm
  refine ⟨rfl, rfl, ?_⟩
  have := h.eq
  have := h'.eq
  unfold num at *
  omega
open Classical in
noncomputable def civ (n : Int) : Int × Int × Int := if h : ∃ p : Int × Int × Int, IsCivil n p.1 p.2.1 p.2.2 then Classical.choose h else (0, 0, 0)
theorem civ_eq {n y m d : Int} (h : IsCivil n y m d) : civ n = (y, m, d) := by
  have hex : ∃ p : Int × Int × Int, IsCivil n p.1 p.2.1 p.2.2 := ⟨(y, m, d), h⟩
  unfold civ
  rw [dif_pos hex]
  obtain ⟨e1, e2, e3⟩ := (Classical.choose_spec hex).unique h
  exact Prod.ext e1 (Prod.ext e2 e3)
noncomputable def cy (n : Int) : Int := (civ n).1
noncomputable def cm (n : Int) : Int := (civ n).2.1
noncomputable def cd (n : Int) : Int := (civ n).2.2
theorem IsCivil.cy {n y m d : Int} (h : IsCivil n y m d) : cy n = y := by unfold Cal.cy; rw [civ_eq h]
theorem IsCivil.cm {n y m d : Int} (h : IsCivil n y m d) : cm n = m := by unfold Cal.cm; rw [civ_eq h]
theorem IsCivil.cd {n y m d : Int} (h : IsCivil n y m d) : cd n = d := by unfold Cal.cd; rw [civ_eq h]
/-- the guess of the program for a year -/
def guess (n : Int) : Int := if n < 0 then 1970 + n.tdiv 365 - 1 else 1970 + n.tdiv 366
theorem guess_ok {n : Int} (h1 : -25567 ≤ n) (h2 : n ≤ 84005) : base (guess n) ≤ n ∧ 1899 ≤ guess n ∧ guess n ≤ 2199 := by
  unfold guess
  split
  · rename_i hn
    have e : n.tdiv 365 = -((-n) / 365) := by
      obtain ⟨k, rfl⟩ : ∃ k : Nat, n = -(k : Int) := ⟨n.natAbs, by omega⟩
      rw [Int.neg_tdiv, Int.tdiv_eq_ediv_of_nonneg (by omega)]
      simp
    rw [e]
    unfold base
    omega
  · rename_i hn
    rw [Int.tdiv_eq_ediv_of_nonneg (by omega)]
    unfold base
    omega
theorem tdiv_neg_eq {n : Int} (k : Int) (hn : n < 0) : n.tdiv k = -((-n) / k) := by
  obtain ⟨j, rfl⟩ : ∃ j : Nat, n = -(j : Int) := ⟨n.natAbs, by omega⟩
  rw [Int.neg_tdiv, Int.tdiv_eq_ediv_of_nonneg (by omega)]
  simp
theorem tdiv_bd {n : Int} (h1 : -25567 ≤ n) (h2 : n ≤ 84005) : -71 ≤ n.tdiv 365 ∧ n.tdiv 365 ≤ 231 ∧ -71 ≤ n.tdiv 366 ∧ n.tdiv 366 ≤ 231 := by
  by_cases hn : n < 0
  · rw [tdiv_neg_eq 365 hn, tdiv_neg_eq 366 hn]
    omega
  · rw [Int.tdiv_eq_ediv_of_nonneg (by omega), Int.tdiv_eq_ediv_of_nonneg (by omega)]
    omega
theorem range_year {n y : Int} (h1 : -25567 ≤ n) (h2 : n ≤ 84005) (h3 : base y ≤ n) (h4 : n < base (y + 1)) : 1900 ≤ y ∧ y ≤ 2199 := by
  have a := base_1900
  have b := base_2200
  constructor
  · by_cases h : 1900 ≤ y
    · exact h
    · have := base_mono (show y + 1 ≤ 1900 by omega); omega
  · by_cases h : y ≤ 2199
    · exact h
    · have := base_mono (show 2200 ≤ y by omega); omega
theorem civil_of {n y m : Int} (h1 : base y + cum y m ≤ n) (h2 : n < base y + cum y m + dim y m) (m1 : 1 ≤ m) (m2 : m ≤ 12) : IsCivil n y m (n - (base y + cum y m) + 1) :=
  ⟨m1, m2, by omega, by omega, by unfold num; omega⟩
/-- the date of a day in the range exists -/
theorem civil_ex {n : Int} (h1 : -25567 ≤ n) (h2 : n ≤ 84005) : ∃ y m d, IsCivil n y m d := by
  have hy : ∀ k : Nat, ∀ y, base y ≤ n → 2200 - y = k → ∃ y, base y ≤ n ∧ n < base (y + 1) := by
    intro k
    induction k with
    | zero => intro y hb hk; exact ⟨y, hb, by have := base_2200; have := base_mono (show 2200 ≤ y + 1 by omega); omega⟩
    | succ k ih =>
      intro y hb hk
      by_cases h : n < base (y + 1)
      · exact ⟨y, hb, h⟩
      · exact ih (y + 1) (by omega) (by omega)
  obtain ⟨y, hb, hl⟩ := hy 300 1900 (by have := base_1900; omega) (by omega)
  have hm : ∀ k : Nat, ∀ m, 1 ≤ m → m ≤ 12 → base y + cum y m ≤ n → 12 - m = k → ∃ m d, IsCivil n y m d := by
    intro k
    induction k with
    | zero =>
      intro m m1 m2 hc hk
      obtain rfl : m = 12 := by omega
      have := cum_succ y 12 (by omega) (by omega)
      have := cum_13 y
      have := base_succ y
      exact ⟨12, _, civil_of hc (by simp only [show (12 : Int) + 1 = 13 from rfl] at *; omega) (by omega) (by omega)⟩
    | succ k ih =>
      intro m m1 m2 hc hk
      by_cases h : n < base y + cum y (m + 1)
      · exact ⟨m, _, civil_of hc (by have := cum_succ y m m1 m2; omega) m1 m2⟩
      · exact ih (m + 1) (by omega) (by omega) (by omega) (by omega)
  obtain ⟨m, d, h⟩ := hm 11 1 (by omega) (by omega) (by rw [cum_one]; omega) (by omega)
  exact ⟨y, m, d, h⟩
theorem civ_spec {n : Int} (h1 : -25567 ≤ n) (h2 : n ≤ 84005) : IsCivil n (cy n) (cm n) (cd n) := by
  obtain ⟨y, m, d, h⟩ := civil_ex h1 h2
  rw [h.cy, h.cm, h.cd]
  exact h
/-- the Day of a date, as a kind and a number; (0, 0): Missing -/
def okDate (y m d : Int) : Bool := decide (1900 ≤ y) && decide (y ≤ 2199) && decide (1 ≤ m) && decide (m ≤ 12) && decide (1 ≤ d) && decide (d ≤ dim y m)
theorem okDate_iff (y m d : Int) : okDate y m d = true ↔ (1900 ≤ y ∧ y ≤ 2199) ∧ (1 ≤ m ∧ m ≤ 12) ∧ 1 ≤ d ∧ d ≤ dim y m := by
  simp only [okDate, Bool.and_eq_true, decide_eq_true_eq]
  omega
theorem num_range {y m d : Int} (m1 : 1 ≤ m) (m2 : m ≤ 12) (d1 : 1 ≤ d) (d2 : d ≤ dim y m) : (-25567 ≤ num y m d ∧ num y m d ≤ 84005) ↔ (1900 ≤ y ∧ y ≤ 2199) := by
  have h : IsCivil (num y m d) y m d := ⟨m1, m2, d1, d2, rfl⟩
  obtain ⟨h3, h4⟩ := h.year
  constructor
  · rintro ⟨h1, h2⟩
    exact range_year h1 h2 h3 h4
  · rintro ⟨h1, h2⟩
    have a := base_1900
    have b := base_2200
    have := base_mono h1
    have := base_mono (show y + 1 ≤ 2200 by omega)
    omega
end Go.Proofs.YtpanbeoelbhhgaaGreatDoor.Cal
namespace Go.Proofs.YtpanbeoelbhhgaaGreatDoor
open Go.RowKit
theorem ret_tup3 {a b c a' b' c' : Int} (h1 : a = a') (h2 : b = b') (h3 : c = c') : Ending.returned (.tuple #[.int .i64 a, .int .i64 b, .int .i64 c]) = .returned (.tuple #[.int .i64 a', .int .i64 b', .int .i64 c']) := by rw [h1, h2, h3]
theorem leap_any (y : Int) (w : World) (h0 : 0 ≤ y) (h1 : y ≤ 10000) :
    Calls Tryz.prog 221 #[.int .i64 y] w fun e w' => e = .returned (.bool (Cal.lp y)) ∧ w = w' := by
  go_enter Tryz.func221, Tryz.ntmps221
  go_wp2
  all_goals (go_ret; exact ⟨ret_bool (by simp_all [Cal.lp, Bool.beq_eq_decide_eq]), rfl⟩)
theorem daysOf_any (y m : Int) (w : World) (h0 : 0 ≤ y) (h1 : y ≤ 10000) :
    Calls Tryz.prog 196 #[.int .i64 y, .int .i64 m] w fun e w' => e = .returned (.int .i64 (Cal.dim y m)) ∧ w = w' := by
  go_enter Tryz.func196, Tryz.ntmps196
  go_wp2_with (go_at_call 221; refine (leap_any _ _ h0 h1).mono ?_; rintro e w' ⟨rfl, rfl⟩)
  all_goals (go_ret; exact ⟨ret_int (by simp_all [Cal.dim]), rfl⟩)
theorem number_any (y m d : Int) (w : World) (h0 : 1600 ≤ y) (h1 : y ≤ 2400) (m1 : 1 ≤ m) (m2 : m ≤ 12) (d0 : 0 ≤ d) (d1 : d ≤ 40) :
    Calls Tryz.prog 166 #[.int .i64 y, .int .i64 m, .int .i64 d] w fun e w' => e = .returned (.int .i64 (Cal.num y m d)) ∧ w = w' := by
  have hb := Cal.base_bd y h0 h1
  go_enter Tryz.func166, Tryz.ntmps166
  go_wp2
  go_loop [9, 8] (fun k s => ∃ j : Int, 1 ≤ j ∧ j ≤ m ∧ k = .int .i64 j ∧ s = .int .i64 (Cal.base y + Cal.cum y j)) (fun k _ => (m - intOf k).toNat)
  case atStart => exact ⟨1, by omega, by omega, rfl, by rw [Cal.cum_one]; unfold Cal.base; simp⟩
  case round =>
    obtain ⟨j, hj1, hj2, rfl, rfl⟩ := hrel
    have cb := Cal.cum_bd y j
    have db := Cal.dim_bd y j
    by_cases hlt : j < m
    · have cs := Cal.cum_succ y j hj1 (by omega)
      have CS := Lib.hid cs
      clear cs
      go_wp2_with (go_at_call 196; refine (daysOf_any _ _ _ (by omega) (by omega)).mono ?_; rintro e w' ⟨rfl, rfl⟩)
      go_round
      case rel => exact ⟨j + 1, by omega, by omega, rfl, by rw [CS.out, Int.add_assoc]⟩
      case measure => simp [intOf]; omega
    · obtain rfl : j = m := by omega
      go_wp2
      go_ret
      exact ⟨ret_int (by unfold Cal.num; rfl), rfl⟩
end Go.Proofs.YtpanbeoelbhhgaaGreatDoor
