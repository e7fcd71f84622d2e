/- 'ValueOppositesAreOpposite' is proved, as the card: for every input of bulk at most 1048576 the law returns true and leaves its arguments as they were. Its row lists tables of Go's library; the given tie holds them against the program's text. -/
import Derived.Test.YtpanbeoelbhhgaaGreatDoorO3
import Derived.Deep.DeepWitnessRowRef
namespace Go.Proofs.YtpanbeoelbhhgaaGreatDoor.fnValueOppositesAreOpposite
open Go.ChangeShapes Go.WideShapes Go.ChangeAt Go.RowKit Go.Joins

theorem not_agg_slice {P : Program} {W : World} {r : Reach} {base : Nat} {t e : TypeId} {v : Value} (ht : P.underlying t = some (.slice e)) (h : Value.okWide P W r base t v) : ∀ cs, v ≠ .agg cs := by
  intro cs hv
  subst hv
  simp [Value.okWide, Cell.okWide, Cell.ok, ht] at h
theorem one_cell {v u : Value} (hn : ∀ cs, v ≠ .agg cs) (h : v.cells.toList = [u]) : v = u := by
  cases v <;> first | exact absurd rfl (hn _) | (simpa [Value.cells] using h)

set_option maxHeartbeats 1000000 in
set_option maxRecDepth 100000 in
theorem contract (H : Type) (enc : TypeId × Value → H) (W : World) (base : Nat) (args : Array Value) (ds gs : List (DataW H)) (before : List MemPlace)
    (hval : ∀ (j : Nat) t v, Tryz.f3.params[j]? = some t → args[j]? = some v → Value.okWide Tryz.prog W .any base t v)
    (hW : DataW.Whole enc Tryz.prog Tryz.f3.params.toList Rows.valueOppositesAreOppositeSpec.vars false W args.toList ds gs before) (hL : laidMetH Tryz.prog Rows.valueOppositesAreOppositeUptoRow.laid W) (hk : Rows.uptoSmall H (ds ++ gs) = true) (hmx : Mx W) :
    Calls Tryz.prog 3 args W fun e W' => ∃ v, e = .returned v ∧ Rows.valueOppositesAreOppositeSpec.post enc Tryz.prog Tryz.f3 false true false false W args v W' := by
  have hW' : DataW.Whole enc Tryz.prog Tryz.f3.params.toList [] false W args.toList ds gs before := hW
  obtain ⟨p, q, hA0, hV, rfl, hfz, hnd⟩ := hW
  have hA : DataW.TrodAll enc Tryz.prog W 0 (fun _ => true) true Tryz.f3.params.toList args.toList ds p := hA0
  rw [Tryz.params3] at hA hval
  obtain ⟨v0, vs0, d0, ds0, p0, q0, hargs, rfl, rfl, h0, r0⟩ := trodAll_cons hA
  obtain ⟨v1, vs1, d1, ds1, p1, q1, rfl, rfl, rfl, h1, r1⟩ := trodAll_cons r0
  obtain ⟨v2, vs2, d2, ds2, p2, q2, rfl, rfl, rfl, h2, r2⟩ := trodAll_cons r1
  obtain ⟨v3, vs3, d3, ds3, p3, q3, rfl, rfl, rfl, h3, r3⟩ := trodAll_cons r2
  obtain ⟨v4, vs4, d4, ds4, p4, q4, rfl, rfl, rfl, h4, r4⟩ := trodAll_cons r3
  obtain ⟨rfl, rfl, rfl⟩ := trodAll_nil r4
  obtain rfl : args = #[v0, v1, v2, v3, v4] := by cases args; simp_all
  obtain ⟨rfl, rfl⟩ := trodVars_none hV
  have htab : Tab10 W := tab_of hL
  obtain ⟨cs0, rfl, -⟩ := okWide_struct Tryz.underlying27 (hval 0 _ v0 rfl rfl)
  obtain ⟨fu0, hf0⟩ := h0
  obtain ⟨e0, hx0, hp0⟩ := expr_at fu0 _ _ (show DataW.trod enc Tryz.prog W 0 (fun _ => true) true fu0 27 cs0.toList = _ from hf0)
  have hp0 : 2 * e0.parts ≤ Rows.uptoBulk d0 := hp0
  obtain ⟨cs1, rfl, -⟩ := okWide_struct Tryz.underlying27 (hval 1 _ v1 rfl rfl)
  obtain ⟨fu1, hf1⟩ := h1
  obtain ⟨e1, hx1, hp1⟩ := expr_at fu1 _ _ (show DataW.trod enc Tryz.prog W 0 (fun _ => true) true fu1 27 cs1.toList = _ from hf1)
  have hp1 : 2 * e1.parts ≤ Rows.uptoBulk d1 := hp1
  obtain ⟨cs2, rfl, -⟩ := okWide_struct Tryz.underlying33 (hval 2 _ v2 rfl rfl)
  obtain ⟨fu2, hf2⟩ := h2
  obtain ⟨cells, loops, bounds, rows, AC, AN, AB, AR, cc, cn, cb, cr, hcs, hC, hN, hB, hR, hcc, hcn, hbC, hbN⟩ := scene_at (show DataW.trod enc Tryz.prog W 0 (fun _ => true) true fu2 33 cs2.toList = _ from hf2)
  have hbC : ∀ d ∈ cells, d.loops.length ≤ Rows.uptoBulk d2 := hbC
  have hbN : ∀ d ∈ loops, d.loops.length ≤ Rows.uptoBulk d2 := hbN
  obtain rfl : cs2 = #[.slice AC cells.length cc, .slice AN loops.length cn, .slice AB bounds.length cb, .slice AR rows.length cr] := by rw [← hcs]
  obtain ⟨fu3, hf3⟩ := h3
  obtain ⟨A, at_, c, hcs2, hat, hc, hm, hz, hb3⟩ := strs_at hf3
  obtain rfl : v3 = .slice A at_.length c := one_cell (not_agg_slice Tryz.underlying34 (hval 3 _ v3 rfl rfl)) hcs2
  obtain ⟨fu4, hf4⟩ := h4
  obtain ⟨R, row, c9, hcs3, hrow, hrc, hrm, hb4⟩ := row_ints hf4
  obtain rfl : v4 = .slice R row.length c9 := one_cell (not_agg_slice Tryz.underlying22 (hval 4 _ v4 rfl rfl)) hcs3
  have hb4 : row.length + 1 ≤ Rows.uptoBulk d4 := hb4
  have hk' : Rows.uptoBulkAll [d0, d1, d2, d3, d4] ≤ 1048576 := of_decide_eq_true hk
  simp only [Rows.uptoBulkAll] at hk'
  clear hA0 hval
  refine (opposites_any ⟨cells, loops, bounds, rows⟩ e0 e1 cs0.toList cs1.toList at_ A c AC AN AB AR cc cn cb cr W.heap.size row R c9 W hC hN hB hR hx0 hx1 hm hat hc hz (by omega) (fun d hd => by have := hbC d hd; omega) (fun d hd => by have := hbN d hd; omega) hrow hrc (by omega) (Nat.le_refl _) htab hmx (fun w' hb => awake_any w' (tab_ten (htab.below hb)))).mono fun e W' ⟨he, hb⟩ => ?_
  subst he
  exact ⟨_, rfl, law_post (by rw [Tryz.params3]; decide +kernel) rfl rfl rfl rfl rfl hW' hb⟩

theorem laid_met (os : Os) : laidMet Tryz.prog Rows.valueOppositesAreOppositeUptoRow.laid ((laidWorld os).forCall (fun _ _ => 0) ⟨#[], #[.agg #[.int .i64 0, .int .i64 0, .string ⟨#[]⟩, .int .i64 0, .int .i64 0, .string ⟨#[]⟩, .slice none 0 0, .slice none 0 0], .agg #[.int .i64 0, .int .i64 0, .string ⟨#[]⟩, .int .i64 0, .int .i64 0, .string ⟨#[]⟩, .slice none 0 0, .slice none 0 0], .agg #[.slice none 0 0, .slice none 0 0, .slice none 0 0, .slice none 0 0], .slice none 0 0, .slice none 0 0], []⟩).memory :=
  laidMet_of_run3 8 (by kernel_rfl) (by kernel_rfl) (by kernel_rfl)
theorem reads (os : Os) {H : Type} (enc : TypeId × Value → H) : ∃ places, DataW.whole enc Tryz.prog ((laidWorld os).forCall (fun _ _ => 0) ⟨#[], #[.agg #[.int .i64 0, .int .i64 0, .string ⟨#[]⟩, .int .i64 0, .int .i64 0, .string ⟨#[]⟩, .slice none 0 0, .slice none 0 0], .agg #[.int .i64 0, .int .i64 0, .string ⟨#[]⟩, .int .i64 0, .int .i64 0, .string ⟨#[]⟩, .slice none 0 0, .slice none 0 0], .agg #[.slice none 0 0, .slice none 0 0, .slice none 0 0, .slice none 0 0], .slice none 0 0, .slice none 0 0], []⟩).memory Tryz.f3.params.toList Rows.valueOppositesAreOppositeSpec.vars false #[.agg #[.int .i64 0, .int .i64 0, .string ⟨#[]⟩, .int .i64 0, .int .i64 0, .string ⟨#[]⟩, .slice none 0 0, .slice none 0 0], .agg #[.int .i64 0, .int .i64 0, .string ⟨#[]⟩, .int .i64 0, .int .i64 0, .string ⟨#[]⟩, .slice none 0 0, .slice none 0 0], .agg #[.slice none 0 0, .slice none 0 0, .slice none 0 0, .slice none 0 0], .slice none 0 0, .slice none 0 0].toList 8 = some ([.agg [.lit (.int .i64 0), .lit (.int .i64 0), .lit (.string []), .agg [.lit (.int .i64 0), .lit (.int .i64 0), .lit (.string []), .nil], .nil], .agg [.lit (.int .i64 0), .lit (.int .i64 0), .lit (.string []), .agg [.lit (.int .i64 0), .lit (.int .i64 0), .lit (.string []), .nil], .nil], .agg [.nil, .nil, .nil, .nil], .nil, .nil], [], places) :=
  ⟨[], by kernel_rfl⟩

set_option maxRecDepth 100000 in
theorem lifted (os : Os) (started : os.Started) (H : Type) (enc : TypeId × Value → H) (F : Stop.Interp) :
    ReturnsInHanded {} Tryz.checked os 3 .any ((Rows.OpenSpec.upto Rows.valueOppositesAreOppositeSpec).preRow enc Tryz.prog Tryz.f3 Rows.valueOppositesAreOppositeUptoRow.domain false Rows.valueOppositesAreOppositeUptoRow.laid) (((Rows.OpenSpec.upto Rows.valueOppositesAreOppositeSpec).at F).post enc Tryz.prog Tryz.f3 false true false false) := by
  obtain ⟨places, hx⟩ := reads os enc
  refine returnsInHanded_of_row (C := Tryz.checked) (s := Rows.OpenSpec.upto Rows.valueOppositesAreOppositeSpec) own started (by kernel_rfl) Tryz.func3
    (witness_row_atRef (enc := enc) (C := Tryz.checked) false (laidWorld os) #[.agg #[.int .i64 0, .int .i64 0, .string ⟨#[]⟩, .int .i64 0, .int .i64 0, .string ⟨#[]⟩, .slice none 0 0, .slice none 0 0], .agg #[.int .i64 0, .int .i64 0, .string ⟨#[]⟩, .int .i64 0, .int .i64 0, .string ⟨#[]⟩, .slice none 0 0, .slice none 0 0], .agg #[.slice none 0 0, .slice none 0 0, .slice none 0 0, .slice none 0 0], .slice none 0 0, .slice none 0 0] rfl (by kernel_rfl) (by kernel_rfl) (by kernel_rfl)
      (OpenSpec.preRow_of_cond 8 hx (by kernel_rfl) (fun k hk => by cases hk; kernel_rfl) (by kernel_rfl) (laid_met os))) ?_
  intro W base args ds gs before hval hW _ hk _ hL hsh _
  exact contract H enc W base args ds gs before hval hW hL (hk _ rfl) (mx_of hsh)

theorem said : Rows.ValueOppositesAreOppositeUptoSaid :=
  OpenClaim.holds_of_cond 3 Tryz.f3 rfl rfl rfl rfl rfl rfl rfl ⟨rfl, rfl, rfl, rfl, rfl⟩ rfl rfl rfl rfl rfl (by kernel_rfl) Tryz.func3 (by kernel_rfl)
    (of_decide_eq_true (by kernel_rfl)) (by unfold Func.isWrapper; first | (rw [if_pos (by decide +kernel)]; kernel_rfl) | (rw [if_neg (by decide +kernel)]; exact ⟨rfl, rfl⟩))
    (fun os started H enc _ F => by rw [OpenClaim.pre_eq_preRow]; exact lifted os started H enc F)

theorem plain (f : FuncId) (fn : Func) (hf : Tryz.pinned.checked.prog.funcNamed "canvass/canvasslaw1.ValueOppositesAreOpposite" = some f) (hfn : Tryz.pinned.checked.prog.funcs[f]? = some fn) :
    false = Tryz.pinned.checked.prog.looks [] ∧ ∀ (j : Nat) t, fn.params[j]? = some t → Tryz.pinned.checked.prog.wantsStandIn t = false := by
  obtain rfl : f = 3 := Option.some.inj ((show Tryz.prog.funcNamed "canvass/canvasslaw1.ValueOppositesAreOpposite" = some 3 by kernel_rfl).symm.trans hf) |>.symm
  obtain rfl : fn = Tryz.f3 := (Option.some.inj (Tryz.func3.symm.trans hfn)).symm
  refine ⟨by kernel_rfl, fun j t ht => ?_⟩
  rw [Tryz.params3] at ht
  have hm := Array.mem_of_getElem? ht
  have hc : (#[27, 27, 33, 34, 22] : Array TypeId).all (fun t => !Tryz.prog.wantsStandIn t) = true := by kernel_rfl
  have := Array.all_eq_true_iff_forall_mem.1 hc t hm
  exact (by simpa using this : Tryz.prog.wantsStandIn t = false)

end Go.Proofs.YtpanbeoelbhhgaaGreatDoor.fnValueOppositesAreOpposite
namespace Go.Proofs.YtpanbeoelbhhgaaGreatDoor
theorem valueOppositesAreOppositeUpto_card : Rows.ValueOppositesAreOppositeUptoCardSaid :=
  Claim7.holds_tied_plain_at .later [] _ _ _ _ fnValueOppositesAreOpposite.said (fun _ h => by cases h) (by kernel_rfl) (fun _ h => by cases h) valueOppositesAreOppositeUpto_row_tie rfl ⟨rfl, rfl⟩ (by kernel_rfl) rfl fnValueOppositesAreOpposite.plain (by kernel_rfl)
#print axioms valueOppositesAreOppositeUpto_card
end Go.Proofs.YtpanbeoelbhhgaaGreatDoor
