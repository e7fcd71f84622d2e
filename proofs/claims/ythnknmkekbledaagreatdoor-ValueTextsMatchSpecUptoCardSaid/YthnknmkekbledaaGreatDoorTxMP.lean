/- 'ValueTextsMatchSpec' is proved, as the card: for every input of bulk at most 1048576 the law returns true and leaves its arguments as they were. Its row lists five tables of Go's library; the given tie holds them against the program's text. -/
import Derived.Test.YthnknmkekbledaaGreatDoorVr5
import Derived.Test.YthnknmkekbledaaGreatDoorLaid4
namespace Go.Proofs.YthnknmkekbledaaGreatDoor.fnValueTextsMatchSpec
open Go.ChangeShapes Go.WideShapes Go.ChangeAt Go.RowKit Go.Joins

theorem cellsV : Tryz.prog.cellsOf 24 = 4 := by kernel_rfl
theorem cellsI : Tryz.prog.cellsOf 3 = 1 := by kernel_rfl

theorem reads_of_ints {w : World} {k : IntKind} {A : Option Addr} {len : Nat} {zs : List Int} (hz : len ≤ zs.length) (hA : 0 < len → ∃ a, A = some a)
    (hc : ∀ a, A = some a → ∀ i, i < zs.length → w.cell? (a.add i) = some (.int k (zs.getD i 0))) : Reads w w.heap.size 1 A len (numV k (zs.take len)) := by
  refine ⟨by rw [numV_len]; simp; omega, fun h0 => ?_⟩
  obtain ⟨a, rfl⟩ := hA h0
  have h0c := hc a rfl 0 (by omega)
  refine ⟨a, rfl, by have := block_lt_of_cell h0c; rwa [block_of_add] at this, fun j u hj => ?_⟩
  obtain ⟨hl, rfl⟩ := numV_get _ _ _ _ hj
  have hl' : j < zs.length := by simp at hl; omega
  rw [hc a rfl j hl']
  simp [List.getD, hl']

set_option maxRecDepth 100000 in
/-- An argument of type Value: what it is, and that its set reads as a list of ints. -/
theorem open_val {H : Type} {enc : TypeId × Value → H} {W : World} {b0 : Nat} {v : Value} {d : DataW H} {p : List MemPlace}
    (hv : Value.okWide Tryz.prog W .any b0 24 v) (h : DataW.Trod enc Tryz.prog W 0 (fun _ => true) true 24 v d p) :
    ∃ (x : Val) (A : Option Addr) (c : Nat), v = .agg #[.int .i64 x.k, .int .i64 x.n, .string x.s, .slice A x.l.length c] ∧ Reads W W.heap.size 1 A x.l.length (numV .i64 x.l) ∧ x.l.length ≤ maxLen ∧ x.s.size ≤ maxLen ∧
      (Lit.int .i64 x.k).wf = true ∧ (Lit.int .i64 x.n).wf = true ∧ ∀ z ∈ x.l, (Lit.int .i64 z).wf = true := by
  obtain ⟨v0, v1, v2, v3, y0, y1, y2, y3, n, rfl, -, -, h0, h1, h2, h3⟩ := open_agg4 Tryz.underlying24 (by kernel_rfl) cellsV hv h
  obtain ⟨k, e0, -, wk⟩ := DataW.trod_int Tryz.underlying3 h0
  obtain ⟨m, e1, -, wm⟩ := DataW.trod_int Tryz.underlying3 h1
  obtain ⟨s, e2, -, hs⟩ := DataW.trod_string Tryz.underlying9 h2
  obtain rfl : v0 = .int .i64 k := by simpa using e0
  obtain rfl : v1 = .int .i64 m := by simpa using e1
  obtain rfl : v2 = .string s := by simpa using e2
  rcases open_ints Tryz.underlying22 Tryz.underlying3 cellsI h3 with ⟨hcs, -⟩ | ⟨a, len, cap, zs, hcs, -, hl, hm, hz, -, hcell, hwz⟩
  · obtain rfl : v3 = .slice none 0 0 := by simpa using hcs
    exact ⟨⟨k, m, s, []⟩, none, 0, rfl, Reads.none_, by simp [maxLen], hs, wk, wm, by simp⟩
  · obtain rfl : v3 = .slice (some a) len cap := by simpa using hcs
    simp only [if_true] at hz
    have e : (zs.take len).length = len := by simp; omega
    refine ⟨⟨k, m, s, zs.take len⟩, some a, cap, by simp [e], ?_, by show (zs.take len).length ≤ _; omega, hs, wk, wm, fun z hz => hwz z (List.mem_of_mem_take hz)⟩
    show Reads W W.heap.size 1 (some a) (zs.take len).length (numV .i64 (zs.take len))
    rw [e]
    exact reads_of_ints (by omega) (fun _ => ⟨a, rfl⟩) (fun a' ha => by injection ha with ha; subst ha; exact hcell)

set_option maxHeartbeats 1000000 in
set_option maxRecDepth 100000 in
theorem contract (H : Type) (enc : TypeId × Value → H) (W : World) (base : Nat) (args : Array Value) (ds gs : List (DataW H)) (before : List MemPlace)
    (hval : ∀ (j : Nat) t v, Tryz.f3.params[j]? = some t → args[j]? = some v → Value.okWide Tryz.prog W .any base t v)
    (hW : DataW.Whole enc Tryz.prog Tryz.f3.params.toList Rows.valueTextsMatchSpecSpec.vars false W args.toList ds gs before) (hL : laidMetH Tryz.prog Rows.valueTextsMatchSpecUptoRow.laid W) (hk : Rows.uptoSmall H (ds ++ gs) = true) (hmx : Mx W) :
    Calls Tryz.prog 3 args W fun e W' => ∃ v, e = .returned v ∧ Rows.valueTextsMatchSpecSpec.post enc Tryz.prog Tryz.f3 false true false false W args v W' := by
  have hW' : DataW.Whole enc Tryz.prog Tryz.f3.params.toList [] false W args.toList ds gs before := hW
  obtain ⟨p, q, hA0, hV, rfl, hfz, hnd⟩ := hW
  have hA : DataW.TrodAll enc Tryz.prog W 0 (fun _ => true) true Tryz.f3.params.toList args.toList ds p := hA0
  rw [Tryz.params3] at hA hval
  obtain ⟨v0, vs0, d0, ds0, p0, q0, hargs, rfl, rfl, h0, r0⟩ := trodAll_cons hA
  obtain ⟨v1, vs1, d1, ds1, p1, q1, rfl, rfl, rfl, h1, r1⟩ := trodAll_cons r0
  obtain ⟨rfl, rfl, rfl⟩ := trodAll_nil r1
  obtain rfl : args = #[v0, v1] := by cases args; simp_all
  obtain ⟨rfl, rfl⟩ := trodVars_none hV
  have htab : Tab W := tab_of hL
  obtain ⟨x, A, c, rfl, hx, hl, hs, -, -, -⟩ := open_val (hval 0 24 v0 rfl rfl) h0
  obtain ⟨s, rfl, rfl, rfl, hmax⟩ := Go.ChangeMaps.open_string Tryz.underlying9 (hval 1 9 v1 rfl rfl) h1
  have hz : s.size ≤ 2000000 := short_of hk
  clear hA0 hval
  refine (texts_any x A c s W hl hs hx hz htab hmx (er_of hL)).mono fun e W' ⟨he, hb⟩ => ?_
  subst he
  exact ⟨_, rfl, law_post (by rw [Tryz.params3]; decide +kernel) rfl rfl rfl rfl rfl hW' hb⟩

theorem laid_met (os : Os) : laidMet Tryz.prog Rows.valueTextsMatchSpecUptoRow.laid ((laidWorld os).forCall (fun _ _ => 0) ⟨#[], #[.agg #[.int .i64 0, .int .i64 0, .string ⟨#[]⟩, .slice none 0 0], .string .empty], []⟩).memory :=
  laidMet_of_run3 8 (by kernel_rfl) (by kernel_rfl) (by kernel_rfl)
theorem reads (os : Os) {H : Type} (enc : TypeId × Value → H) : ∃ places, DataW.whole enc Tryz.prog ((laidWorld os).forCall (fun _ _ => 0) ⟨#[], #[.agg #[.int .i64 0, .int .i64 0, .string ⟨#[]⟩, .slice none 0 0], .string .empty], []⟩).memory Tryz.f3.params.toList Rows.valueTextsMatchSpecSpec.vars false #[.agg #[.int .i64 0, .int .i64 0, .string ⟨#[]⟩, .slice none 0 0], .string .empty].toList 8 = some ([.agg [.lit (.int .i64 0), .lit (.int .i64 0), .lit (.string []), .nil], .lit (.string [])], [], places) :=
  ⟨[], by kernel_rfl⟩

set_option maxRecDepth 100000 in
theorem lifted (os : Os) (started : os.Started) (H : Type) (enc : TypeId × Value → H) (F : Stop.Interp) :
    ReturnsInHanded {} Tryz.checked os 3 .any ((Rows.OpenSpec.upto Rows.valueTextsMatchSpecSpec).preRow enc Tryz.prog Tryz.f3 Rows.valueTextsMatchSpecUptoRow.domain false Rows.valueTextsMatchSpecUptoRow.laid) (((Rows.OpenSpec.upto Rows.valueTextsMatchSpecSpec).at F).post enc Tryz.prog Tryz.f3 false true false false) := by
  obtain ⟨places, hx⟩ := reads os enc
  refine returnsInHanded_of_row (C := Tryz.checked) (s := Rows.OpenSpec.upto Rows.valueTextsMatchSpecSpec) own started (by kernel_rfl) Tryz.func3
    (witness_row_at (enc := enc) (C := Tryz.checked) false (laidWorld os) #[.agg #[.int .i64 0, .int .i64 0, .string ⟨#[]⟩, .slice none 0 0], .string .empty] rfl (by kernel_rfl) (by kernel_rfl) (by kernel_rfl)
      (OpenSpec.preRow_of_cond 8 hx (by kernel_rfl) (fun k hk => by cases hk; kernel_rfl) (by kernel_rfl) (laid_met os))) ?_
  intro W base args ds gs before hval hW _ hk _ hL hsh _
  exact contract H enc W base args ds gs before hval hW hL (hk _ rfl) (mx_of hsh)

theorem said : Rows.ValueTextsMatchSpecUptoSaid :=
  OpenClaim.holds_of_cond 3 Tryz.f3 rfl rfl rfl rfl rfl rfl rfl ⟨rfl, rfl, rfl, rfl, rfl⟩ rfl rfl rfl rfl rfl (by kernel_rfl) Tryz.func3 (by kernel_rfl)
    (of_decide_eq_true (by kernel_rfl)) (by unfold Func.isWrapper; first | (rw [if_pos (by decide +kernel)]; kernel_rfl) | (rw [if_neg (by decide +kernel)]; exact ⟨rfl, rfl⟩))
    (fun os started H enc _ F => by rw [OpenClaim.pre_eq_preRow]; exact lifted os started H enc F)

theorem plain (f : FuncId) (fn : Func) (hf : Tryz.pinned.checked.prog.funcNamed "canvass/canvasslaw1.ValueTextsMatchSpec" = some f) (hfn : Tryz.pinned.checked.prog.funcs[f]? = some fn) :
    true = Tryz.pinned.checked.prog.looks [] ∧ ∀ (j : Nat) t, fn.params[j]? = some t → Tryz.pinned.checked.prog.wantsStandIn t = false := by
  obtain rfl : f = 3 := Option.some.inj ((show Tryz.prog.funcNamed "canvass/canvasslaw1.ValueTextsMatchSpec" = some 3 by kernel_rfl).symm.trans hf) |>.symm
  obtain rfl : fn = Tryz.f3 := (Option.some.inj (Tryz.func3.symm.trans hfn)).symm
  refine ⟨by kernel_rfl, fun j t ht => ?_⟩
  rw [Tryz.params3] at ht
  have hm := Array.mem_of_getElem? ht
  have hc : (#[24, 9] : Array TypeId).all (fun t => !Tryz.prog.wantsStandIn t) = true := by kernel_rfl
  have := Array.all_eq_true_iff_forall_mem.1 hc t hm
  exact (by simpa using this : Tryz.prog.wantsStandIn t = false)

end Go.Proofs.YthnknmkekbledaaGreatDoor.fnValueTextsMatchSpec
namespace Go.Proofs.YthnknmkekbledaaGreatDoor
theorem valueTextsMatchSpecUpto_card : Rows.ValueTextsMatchSpecUptoCardSaid :=
  Claim7.holds_tied_plain_at .later [] _ _ _ _ fnValueTextsMatchSpec.said (fun _ h => by cases h) (by kernel_rfl) (fun _ h => by cases h) valueTextsMatchSpecUpto_row_tie rfl ⟨rfl, rfl⟩ (by kernel_rfl) rfl fnValueTextsMatchSpec.plain (by kernel_rfl)
#print axioms valueTextsMatchSpecUpto_card
end Go.Proofs.YthnknmkekbledaaGreatDoor
