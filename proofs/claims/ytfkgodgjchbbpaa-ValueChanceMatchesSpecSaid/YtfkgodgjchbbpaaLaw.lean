/- What every law's row asks behind its walk: the result is true, the arguments read as they did. And how an argument of type Value is opened. No condition. -/
import Derived.Test.YtfkgodgjchbbpaaVal
import Derived.Test.YtfkgodgjchbbpaaRows
import Derived.ProofKit
import Derived.Lib.SmallJoins
namespace Go.Proofs.Ytfkgodgjchbbpaa
open Go.ChangeShapes Go.WideShapes Go.ChangeAt Go.RowKit Go.Joins

theorem own : ownKnob Try.prog.godebug = none := by kernel_rfl
theorem laidOut : laidOutB Try.prog = true := by kernel_rfl

theorem below_trodAll {H : Type} {enc : TypeId × Value → H} {P : Program} {W W' : World} (hl : laidOutB P = true) (hb : Below W.heap.size W W') :
    ∀ {ts : List TypeId} {vs : List Value} {ds : List (DataW H)} {ps : List MemPlace}, (∀ t ∈ ts, P.readableRec t = true ∧ t < P.types.size) →
    DataW.TrodAll enc P W 0 (fun _ => true) true ts vs ds ps → (∀ x ∈ ps, x.block < W.heap.size) → DataW.TrodAll enc P W' 0 (fun b => decide (b < W.heap.size)) true ts vs ds ps
  | [], [], [], _, _, h, _ => h
  | _ :: _, _ :: _, _ :: _, _, hr, ⟨p, q, h1, h2, e⟩, hs =>
    ⟨p, q, Below.trod hl (hr _ (List.mem_cons.2 (Or.inl rfl))).1 (hr _ (List.mem_cons.2 (Or.inl rfl))).2 h1 hb (fun x hx => hs x (by rw [e]; exact List.mem_append_left _ hx)),
      below_trodAll hl hb (fun t ht => hr t (List.mem_cons.2 (Or.inr ht))) h2 (fun x hx => hs x (by rw [e]; exact List.mem_append_right _ hx)), e⟩
  | [], [], _ :: _, _, _, h, _ => h.elim
  | [], _ :: _, _, _, _, h, _ => by cases h
  | _ :: _, [], _, _, _, h, _ => by cases h
  | _ :: _, _ :: _, [], _, _, h, _ => h.elim

theorem law_post {H : Type} {enc : TypeId × Value → H} {f : Func} {s : ChangeSpec} {W W' : World} {args : Array Value} {ds gs : List (DataW H)} {before : List MemPlace}
    (hr : ∀ t ∈ f.params.toList, Try.prog.readableRec t = true ∧ t < Try.prog.types.size) (hrt : f.resultTypes = #[4]) (hv : s.vars = [])
    (h1 : (s.fn H (ds ++ gs)).results = [.lit (.bool true)]) (h2 : (s.fn H (ds ++ gs)).args = ds) (h3 : (s.fn H (ds ++ gs)).vars = [])
    (hW : DataW.Whole enc Try.prog f.params.toList s.vars false W args.toList ds gs before) (hb : Below W.heap.size W W') : s.post enc Try.prog f false true false false W args (.bool true) W' := by
  have hlt := hW.lt
  have hW0 := hW
  obtain ⟨p, q, hA, hV, rfl, _, _⟩ := hW
  refine ⟨ds, gs, p ++ q, [], p, [], hW0, ?_, ?_, ?_, hb.frame _, fun h => by cases h⟩
  · rw [h1, hrt]
    exact ⟨[], [], shut_bool Try.underlying4 true, rfl, rfl⟩
  · rw [h2]
    exact below_trodAll laidOut hb hr hA (fun x hx => by simpa using hlt x (List.mem_append_left _ hx))
  · rw [h3, hv]; rfl

theorem cellsV : Try.prog.cellsOf 24 = 4 := by kernel_rfl
theorem cellsI : Try.prog.cellsOf 3 = 1 := by kernel_rfl

theorem reads_of_ints {w : World} {k : IntKind} {A : Option Addr} {len : Nat} {zs : List Int} (hz : len ≤ zs.length) (hA : 0 < len → ∃ a, A = some a)
    (hc : ∀ a, A = some a → ∀ i, i < zs.length → w.cell? (a.add i) = some (.int k (zs.getD i 0))) : Reads w w.heap.size 1 A len (numV k (zs.take len)) := by
  refine ⟨by rw [numV_len]; simp; omega, fun h0 => ?_⟩
  obtain ⟨a, rfl⟩ := hA h0
  have h0c := hc a rfl 0 (by omega)
  refine ⟨a, rfl, by have := block_lt_of_cell h0c; rwa [block_of_add] at this, fun j u hj => ?_⟩
  obtain ⟨hl, rfl⟩ := numV_get _ _ _ _ hj
  have hl' : j < zs.length := by simp at hl; omega
  rw [hc a rfl j hl']
  simp [List.getD, hl']

/-- An argument of type Value: what it is, and that its set reads as a list of ints. -/
theorem open_val {H : Type} {enc : TypeId × Value → H} {W : World} {b0 : Nat} {v : Value} {d : DataW H} {p : List MemPlace}
    (hv : Value.okWide Try.prog W .any b0 24 v) (h : DataW.Trod enc Try.prog W 0 (fun _ => true) true 24 v d p) :
    ∃ (x : Val) (A : Option Addr) (c : Nat), v = .agg #[.int .i64 x.k, .int .i64 x.n, .string x.s, .slice A x.l.length c] ∧ Reads W W.heap.size 1 A x.l.length (numV .i64 x.l) ∧ x.l.length ≤ maxLen ∧ x.s.size ≤ maxLen ∧
      (Lit.int .i64 x.k).wf = true ∧ (Lit.int .i64 x.n).wf = true ∧ ∀ z ∈ x.l, (Lit.int .i64 z).wf = true := by
  obtain ⟨v0, v1, v2, v3, y0, y1, y2, y3, n, rfl, -, -, h0, h1, h2, h3⟩ := open_agg4 Try.underlying24 (by kernel_rfl) cellsV hv h
  obtain ⟨k, e0, -, wk⟩ := DataW.trod_int Try.underlying3 h0
  obtain ⟨m, e1, -, wm⟩ := DataW.trod_int Try.underlying3 h1
  obtain ⟨s, e2, -, hs⟩ := DataW.trod_string Try.underlying9 h2
  obtain rfl : v0 = .int .i64 k := by simpa using e0
  obtain rfl : v1 = .int .i64 m := by simpa using e1
  obtain rfl : v2 = .string s := by simpa using e2
  rcases open_ints Try.underlying22 Try.underlying3 cellsI h3 with ⟨hcs, -⟩ | ⟨a, len, cap, zs, hcs, -, hl, hm, hz, -, hcell, hwz⟩
  · obtain rfl : v3 = .slice none 0 0 := by simpa using hcs
    exact ⟨⟨k, m, s, []⟩, none, 0, rfl, Reads.none_, by simp [maxLen], hs, wk, wm, by simp⟩
  · obtain rfl : v3 = .slice (some a) len cap := by simpa using hcs
    simp only [if_true] at hz
    have e : (zs.take len).length = len := by simp; omega
    refine ⟨⟨k, m, s, zs.take len⟩, some a, cap, by simp [e], ?_, by show (zs.take len).length ≤ _; omega, hs, wk, wm, fun z hz => hwz z (List.mem_of_mem_take hz)⟩
    show Reads W W.heap.size 1 (some a) (zs.take len).length (numV .i64 (zs.take len))
    rw [e]
    exact reads_of_ints (by omega) (fun _ => ⟨a, rfl⟩) (fun a' ha => by injection ha with ha; subst ha; exact hcell)
end Go.Proofs.Ytfkgodgjchbbpaa
