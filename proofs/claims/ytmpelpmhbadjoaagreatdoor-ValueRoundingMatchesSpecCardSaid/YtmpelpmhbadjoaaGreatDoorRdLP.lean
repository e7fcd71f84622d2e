/- 'ValueRoundingMatchesSpec' is proved, as the card: for every input the law returns true and leaves its arguments as they were. Its row lists tables and errors of Go's library; the given tie holds them against the program's text. -/
import Derived.Test.YtmpelpmhbadjoaaGreatDoorRdL
import Derived.Test.YtmpelpmhbadjoaaGreatDoorLaid2
namespace Go.Proofs.YtmpelpmhbadjoaaGreatDoor.fnValueRoundingMatchesSpec
open Go.ChangeShapes Go.WideShapes Go.ChangeAt Go.RowKit Go.Joins

theorem cellsR : Tryz.prog.cellsOf 23 = 2 := by kernel_rfl
set_option maxRecDepth 100000 in
theorem open_ratio {H : Type} {enc : TypeId × Value → H} {W : World} {b0 : Nat} {v : Value} {d : DataW H} {p : List MemPlace}
    (hv : Value.okWide Tryz.prog W .any b0 23 v) (h : DataW.Trod enc Tryz.prog W 0 (fun _ => true) true 23 v d p) :
    ∃ s t : ByteArray, v = .agg #[.string s, .string t] ∧ s.size ≤ maxLen ∧ t.size ≤ maxLen := by
  obtain ⟨v0, v1, y0, y1, n, rfl, -, -, h0, h1⟩ := open_agg2 Tryz.underlying23 (by kernel_rfl) cellsR hv h
  obtain ⟨s, e0, -, hs⟩ := DataW.trod_string Tryz.underlying9 h0
  obtain ⟨t, e1, -, ht⟩ := DataW.trod_string Tryz.underlying9 h1
  obtain rfl : v0 = .string s := by simpa using e0
  obtain rfl : v1 = .string t := by simpa using e1
  exact ⟨s, t, rfl, hs, ht⟩
theorem i64_bd {n : Int} (h : (Lit.int .i64 n).wf = true) : -9223372036854775808 ≤ n ∧ n ≤ 9223372036854775807 := by
  simp [Lit.wf, IntKind.min, IntKind.max, IntKind.bits, IntKind.signed] at h
  omega
theorem cellsV : Tryz.prog.cellsOf 35 = 4 := by kernel_rfl
theorem cellsI : Tryz.prog.cellsOf 3 = 1 := by kernel_rfl

theorem reads_of_ints {w : World} {k : IntKind} {A : Option Addr} {len : Nat} {zs : List Int} (hz : len ≤ zs.length) (hA : 0 < len → ∃ a, A = some a)
    (hc : ∀ a, A = some a → ∀ i, i < zs.length → w.cell? (a.add i) = some (.int k (zs.getD i 0))) : Reads w w.heap.size 1 A len (numV k (zs.take len)) := by
  refine ⟨by rw [numV_len]; simp; omega, fun h0 => ?_⟩
  obtain ⟨a, rfl⟩ := hA h0
  have h0c := hc a rfl 0 (by omega)
  refine ⟨a, rfl, by have := block_lt_of_cell h0c; rwa [block_of_add] at this, fun j u hj => ?_⟩
  obtain ⟨hl, rfl⟩ := numV_get _ _ _ _ hj
  have hl' : j < zs.length := by simp at hl; omega
  rw [hc a rfl j hl']
  simp [List.getD, hl']

set_option maxRecDepth 100000 in
/-- An argument of type Value: what it is, and that its set reads as a list of ints. -/
theorem open_val {H : Type} {enc : TypeId × Value → H} {W : World} {b0 : Nat} {v : Value} {d : DataW H} {p : List MemPlace}
    (hv : Value.okWide Tryz.prog W .any b0 35 v) (h : DataW.Trod enc Tryz.prog W 0 (fun _ => true) true 35 v d p) :
    ∃ (x : Val) (A : Option Addr) (c : Nat), v = .agg #[.int .i64 x.k, .int .i64 x.n, .string x.s, .slice A x.l.length c] ∧ Reads W W.heap.size 1 A x.l.length (numV .i64 x.l) ∧ x.l.length ≤ maxLen ∧ x.s.size ≤ maxLen ∧
      (Lit.int .i64 x.k).wf = true ∧ (Lit.int .i64 x.n).wf = true ∧ ∀ z ∈ x.l, (Lit.int .i64 z).wf = true := by
  obtain ⟨v0, v1, v2, v3, y0, y1, y2, y3, n, rfl, -, -, h0, h1, h2, h3⟩ := open_agg4 Tryz.underlying35 (by kernel_rfl) cellsV hv h
  obtain ⟨k, e0, -, wk⟩ := DataW.trod_int Tryz.underlying3 h0
  obtain ⟨m, e1, -, wm⟩ := DataW.trod_int Tryz.underlying3 h1
  obtain ⟨s, e2, -, hs⟩ := DataW.trod_string Tryz.underlying9 h2
  obtain rfl : v0 = .int .i64 k := by simpa using e0
  obtain rfl : v1 = .int .i64 m := by simpa using e1
  obtain rfl : v2 = .string s := by simpa using e2
  rcases open_ints Tryz.underlying33 Tryz.underlying3 cellsI h3 with ⟨hcs, -⟩ | ⟨a, len, cap, zs, hcs, -, hl, hm, hz, -, hcell, hwz⟩
  · obtain rfl : v3 = .slice none 0 0 := by simpa using hcs
    exact ⟨⟨k, m, s, []⟩, none, 0, rfl, Reads.none_, by simp [maxLen], hs, wk, wm, by simp⟩
  · obtain rfl : v3 = .slice (some a) len cap := by simpa using hcs
    simp only [if_true] at hz
    have e : (zs.take len).length = len := by simp; omega
    refine ⟨⟨k, m, s, zs.take len⟩, some a, cap, by simp [e], ?_, by show (zs.take len).length ≤ _; omega, hs, wk, wm, fun z hz => hwz z (List.mem_of_mem_take hz)⟩
    show Reads W W.heap.size 1 (some a) (zs.take len).length (numV .i64 (zs.take len))
    rw [e]
    exact reads_of_ints (by omega) (fun _ => ⟨a, rfl⟩) (fun a' ha => by injection ha with ha; subst ha; exact hcell)

set_option maxHeartbeats 1000000 in
set_option maxRecDepth 100000 in
theorem contract (H : Type) (enc : TypeId × Value → H) (W : World) (base : Nat) (args : Array Value) (ds gs : List (DataW H)) (before : List MemPlace)
    (hval : ∀ (j : Nat) t v, Tryz.f4.params[j]? = some t → args[j]? = some v → Value.okWide Tryz.prog W .any base t v)
    (hW : DataW.Whole enc Tryz.prog Tryz.f4.params.toList Rows.valueRoundingMatchesSpecSpec.vars false W args.toList ds gs before) (hL : laidMetH Tryz.prog Rows.valueRoundingMatchesSpecRow.laid W) :
    Calls Tryz.prog 4 args W fun e W' => ∃ v, e = .returned v ∧ Rows.valueRoundingMatchesSpecSpec.post enc Tryz.prog Tryz.f4 false true false false W args v W' := by
  have hW' : DataW.Whole enc Tryz.prog Tryz.f4.params.toList [] false W args.toList ds gs before := hW
  obtain ⟨p, q, hA0, hV, rfl, hfz, hnd⟩ := hW
  have hA : DataW.TrodAll enc Tryz.prog W 0 (fun _ => true) true Tryz.f4.params.toList args.toList ds p := hA0
  rw [Tryz.params4] at hA hval
  obtain ⟨v0, vs0, d0, ds0, p0, q0, hargs, rfl, rfl, h0, r0⟩ := trodAll_cons hA
  obtain ⟨v1, vs1, d1, ds1, p1, q1, rfl, rfl, rfl, h1, r1⟩ := trodAll_cons r0
  obtain ⟨v2, vs2, d2, ds2, p2, q2, rfl, rfl, rfl, h2, r2⟩ := trodAll_cons r1
  obtain ⟨rfl, rfl, rfl⟩ := trodAll_nil r2
  obtain rfl : args = #[v0, v1, v2] := by cases args; simp_all
  obtain ⟨rfl, rfl⟩ := trodVars_none hV
  have htab : Tab W := tab_of hL
  obtain ⟨na, ea, rfl, hna, hda⟩ := open_ratio (hval 0 23 v0 rfl rfl) h0
  obtain ⟨z1, rfl, rfl, rfl, b1⟩ := open_int Tryz.underlying3 (hval 1 3 v1 rfl rfl) h1
  obtain ⟨x, A, c, rfl, hx, hl, hs, -, wn, -⟩ := open_val (hval 2 35 v2 rfl rfl) h2
  obtain ⟨bl, bh⟩ := i64_bd wn
  clear hA0 hval
  refine (rounding_any na ea z1 x A c W hna hda hl hs hx bl bh htab).mono fun e W' ⟨he, hb⟩ => ?_
  subst he
  exact ⟨_, rfl, law_post (by rw [Tryz.params4]; decide +kernel) rfl rfl rfl rfl rfl hW' hb⟩

theorem laid_met (os : Os) : laidMet Tryz.prog Rows.valueRoundingMatchesSpecRow.laid ((laidWorld os).forCall (fun _ _ => 0) ⟨#[], #[.agg #[.string ⟨#[]⟩, .string ⟨#[]⟩], .int .i64 0, .agg #[.int .i64 0, .int .i64 0, .string ⟨#[]⟩, .slice none 0 0]], []⟩).memory :=
  laidMet_of_run3 8 (by kernel_rfl) (by kernel_rfl) (by kernel_rfl)
theorem reads (os : Os) {H : Type} (enc : TypeId × Value → H) : ∃ places, DataW.whole enc Tryz.prog ((laidWorld os).forCall (fun _ _ => 0) ⟨#[], #[.agg #[.string ⟨#[]⟩, .string ⟨#[]⟩], .int .i64 0, .agg #[.int .i64 0, .int .i64 0, .string ⟨#[]⟩, .slice none 0 0]], []⟩).memory Tryz.f4.params.toList Rows.valueRoundingMatchesSpecSpec.vars false #[.agg #[.string ⟨#[]⟩, .string ⟨#[]⟩], .int .i64 0, .agg #[.int .i64 0, .int .i64 0, .string ⟨#[]⟩, .slice none 0 0]].toList 8 = some ([.agg [.lit (.string []), .lit (.string [])], .lit (.int .i64 0), .agg [.lit (.int .i64 0), .lit (.int .i64 0), .lit (.string []), .nil]], [], places) :=
  ⟨[], by kernel_rfl⟩

set_option maxRecDepth 100000 in
theorem lifted (os : Os) (started : os.Started) (H : Type) (enc : TypeId × Value → H) (F : Stop.Interp) :
    ReturnsInHanded {} Tryz.checked os 4 .any ((OpenSpec.ofChange Rows.valueRoundingMatchesSpecSpec).preRow enc Tryz.prog Tryz.f4 Rows.valueRoundingMatchesSpecRow.domain false Rows.valueRoundingMatchesSpecRow.laid) (((OpenSpec.ofChange Rows.valueRoundingMatchesSpecSpec).at F).post enc Tryz.prog Tryz.f4 false true false false) := by
  obtain ⟨places, hx⟩ := reads os enc
  refine returnsInHanded_of_row (C := Tryz.checked) (s := OpenSpec.ofChange Rows.valueRoundingMatchesSpecSpec) own started (by kernel_rfl) Tryz.func4
    (witness_row_at (enc := enc) (C := Tryz.checked) false (laidWorld os) #[.agg #[.string ⟨#[]⟩, .string ⟨#[]⟩], .int .i64 0, .agg #[.int .i64 0, .int .i64 0, .string ⟨#[]⟩, .slice none 0 0]] rfl (by kernel_rfl) (by kernel_rfl) (by kernel_rfl)
      (OpenSpec.preRow_of_cond 8 hx (by kernel_rfl) (fun k hk => by cases hk) (by kernel_rfl) (laid_met os))) ?_
  intro W base args ds gs before hval hW _ _ _ hL _ _
  exact contract H enc W base args ds gs before hval hW hL

theorem said : Rows.ValueRoundingMatchesSpecSaid :=
  OpenClaim.holds_of_cond 4 Tryz.f4 rfl rfl rfl rfl rfl rfl rfl ⟨rfl, rfl, rfl, rfl, rfl⟩ rfl rfl rfl rfl rfl (by kernel_rfl) Tryz.func4 (by kernel_rfl)
    (of_decide_eq_true (by kernel_rfl)) (by unfold Func.isWrapper; first | (rw [if_pos (by decide +kernel)]; kernel_rfl) | (rw [if_neg (by decide +kernel)]; exact ⟨rfl, rfl⟩))
    (fun os started H enc _ F => by rw [OpenClaim.pre_eq_preRow]; exact lifted os started H enc F)

theorem plain (f : FuncId) (fn : Func) (hf : Tryz.pinned.checked.prog.funcNamed "canvass/canvasslaw1.ValueRoundingMatchesSpec" = some f) (hfn : Tryz.pinned.checked.prog.funcs[f]? = some fn) :
    true = Tryz.pinned.checked.prog.looks [] ∧ ∀ (j : Nat) t, fn.params[j]? = some t → Tryz.pinned.checked.prog.wantsStandIn t = false := by
  obtain rfl : f = 4 := Option.some.inj ((show Tryz.prog.funcNamed "canvass/canvasslaw1.ValueRoundingMatchesSpec" = some 4 by kernel_rfl).symm.trans hf) |>.symm
  obtain rfl : fn = Tryz.f4 := (Option.some.inj (Tryz.func4.symm.trans hfn)).symm
  refine ⟨by kernel_rfl, fun j t ht => ?_⟩
  rw [Tryz.params4] at ht
  have hm := Array.mem_of_getElem? ht
  have hc : (#[23, 3, 35] : Array TypeId).all (fun t => !Tryz.prog.wantsStandIn t) = true := by kernel_rfl
  have := Array.all_eq_true_iff_forall_mem.1 hc t hm
  exact (by simpa using this : Tryz.prog.wantsStandIn t = false)

end Go.Proofs.YtmpelpmhbadjoaaGreatDoor.fnValueRoundingMatchesSpec
namespace Go.Proofs.YtmpelpmhbadjoaaGreatDoor
theorem valueRoundingMatchesSpec_card : Rows.ValueRoundingMatchesSpecCardSaid :=
  Claim7.holds_tied_plain_at .later [] _ _ _ _ fnValueRoundingMatchesSpec.said (fun _ h => by cases h) (by kernel_rfl) (fun _ h => by cases h) valueRoundingMatchesSpec_row_tie rfl ⟨rfl, rfl⟩ (by kernel_rfl) rfl fnValueRoundingMatchesSpec.plain (by kernel_rfl)
#print axioms valueRoundingMatchesSpec_card
end Go.Proofs.YtmpelpmhbadjoaaGreatDoor
