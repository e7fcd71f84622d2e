/- 'ValueParsesMatchSpec' is proved, as the card: for every input the law returns true and leaves its arguments as they were. Its row lists tables and errors of Go's library; the given tie holds them against the program's text. -/
import Derived.Test.YtobanldeicclmaaGreatDoorZ39
import Derived.Deep.DeepWitnessRowRef
set_option maxHeartbeats 1000000
set_option maxRecDepth 100000
namespace Go.Proofs.YtobanldeicclmaaGreatDoor.fnValueParsesMatchSpec
open Go.ChangeShapes Go.WideShapes Go.ChangeAt Go.RowKit Go.Joins
theorem contract (H : Type) (enc : TypeId × Value → H) (W : World) (base : Nat) (args : Array Value) (ds gs : List (DataW H)) (before : List MemPlace)
  (hval : ∀ (j : Nat) t v, Tryz.f4.params[j]? = some t → args[j]? = some v → Value.okWide Tryz.prog W .any base t v)
  (hW : DataW.Whole enc Tryz.prog Tryz.f4.params.toList Rows.valueParsesMatchSpecSpec.vars false W args.toList ds gs before) (hL : laidMetH Tryz.prog Rows.valueParsesMatchSpecRow.laid W) (hmx : Mx W) :
  Calls Tryz.prog 4 args W fun e W' => ∃ v, e = .returned v ∧ Rows.valueParsesMatchSpecSpec.post enc Tryz.prog Tryz.f4 false true false false W args v W' := by
 have hW' : DataW.Whole enc Tryz.prog Tryz.f4.params.toList [] false W args.toList ds gs before := hW
 obtain ⟨p, q, hA0, hV, rfl, hfz, hnd⟩ := hW
 have hA : DataW.TrodAll enc Tryz.prog W 0 (fun _ => true) true Tryz.f4.params.toList args.toList ds p := hA0
 rw [Tryz.params4] at hA hval
 obtain ⟨v0, vs0, d0, ds0, p0, q0, hargs, rfl, rfl, h0, r0⟩ := trodAll_cons hA
 obtain ⟨rfl, rfl, rfl⟩ := trodAll_nil r0
 obtain rfl : args = #[v0] := by cases args; simp_all
 obtain ⟨rfl, rfl⟩ := trodVars_none hV
 have htab : Tab W := Yo hL
 obtain ⟨s, rfl, rfl, rfl, hmax⟩ := Go.ChangeMaps.open_string Tryz.underlying9 (hval 0 9 v0 rfl rfl) h0
 have hsp : Sp W := Z9 hL
 clear hA0 hval
 refine (KZ s W hmax htab hmx (aab hL) hsp).mono fun e W' ⟨he, hb⟩ => ?_
 subst he
 exact ⟨_, rfl, Tf (by rw [Tryz.params4]; decide +kernel) rfl rfl rfl rfl rfl hW' hb⟩
theorem laid_met (os : Os) : laidMet Tryz.prog Rows.valueParsesMatchSpecRow.laid ((laidWorld os).forCall (fun _ _ => 0) ⟨#[], #[.string .empty], []⟩).memory :=
 laidMet_of_run3 8 (by kernel_rfl) (by kernel_rfl) (by kernel_rfl)
theorem reads (os : Os) {H : Type} (enc : TypeId × Value → H) : ∃ places, DataW.whole enc Tryz.prog ((laidWorld os).forCall (fun _ _ => 0) ⟨#[], #[.string .empty], []⟩).memory Tryz.f4.params.toList Rows.valueParsesMatchSpecSpec.vars false #[.string .empty].toList 8 = some ([.lit (.string [])], [], places) :=
 ⟨[], by kernel_rfl⟩
theorem lifted (os : Os) (started : os.Started) (H : Type) (enc : TypeId × Value → H) (F : Stop.Interp) :
  ReturnsInHanded {} Tryz.checked os 4 .any ((OpenSpec.ofChange Rows.valueParsesMatchSpecSpec).preRow enc Tryz.prog Tryz.f4 Rows.valueParsesMatchSpecRow.domain false Rows.valueParsesMatchSpecRow.laid) (((OpenSpec.ofChange Rows.valueParsesMatchSpecSpec).at F).post enc Tryz.prog Tryz.f4 false true false false) := by
 obtain ⟨places, hx⟩ := reads os enc
 refine returnsInHanded_of_row (C := Tryz.checked) (s := OpenSpec.ofChange Rows.valueParsesMatchSpecSpec) own started (by kernel_rfl) Tryz.func4
  (witness_row_atRef (enc := enc) (C := Tryz.checked) false (laidWorld os) #[.string .empty] rfl (by kernel_rfl) (by kernel_rfl) (by kernel_rfl)
   (OpenSpec.preRow_of_cond 8 hx (by kernel_rfl) (fun k hk => by cases hk) (by kernel_rfl) (laid_met os))) ?_
 intro W base args ds gs before hval hW _ _ _ hL hsh _
 exact contract H enc W base args ds gs before hval hW hL (aac hsh)
theorem said : Rows.ValueParsesMatchSpecSaid :=
 OpenClaim.holds_of_cond 4 Tryz.f4 rfl rfl rfl rfl rfl rfl rfl ⟨rfl, rfl, rfl, rfl, rfl⟩ rfl rfl rfl rfl rfl (by kernel_rfl) Tryz.func4 (by kernel_rfl)
  (of_decide_eq_true (by kernel_rfl)) (by unfold Func.isWrapper; first | (rw [if_pos (by decide +kernel)]; kernel_rfl) | (rw [if_neg (by decide +kernel)]; exact ⟨rfl, rfl⟩))
  (fun os started H enc _ F => by rw [OpenClaim.pre_eq_preRow]; exact lifted os started H enc F)
theorem plain (f : FuncId) (fn : Func) (hf : Tryz.pinned.checked.prog.funcNamed "canvass/canvasslaw1.ValueParsesMatchSpec" = some f) (hfn : Tryz.pinned.checked.prog.funcs[f]? = some fn) :
  true = Tryz.pinned.checked.prog.looks [] ∧ ∀ (j : Nat) t, fn.params[j]? = some t → Tryz.pinned.checked.prog.wantsStandIn t = false := by
 obtain rfl : f = 4 := Option.some.inj ((show Tryz.prog.funcNamed "canvass/canvasslaw1.ValueParsesMatchSpec" = some 4 by kernel_rfl).symm.trans hf) |>.symm
 obtain rfl : fn = Tryz.f4 := (Option.some.inj (Tryz.func4.symm.trans hfn)).symm
 refine ⟨by kernel_rfl, fun j t ht => ?_⟩
 rw [Tryz.params4] at ht
 have hm := Array.mem_of_getElem? ht
 have hc : (#[9] : Array TypeId).all (fun t => !Tryz.prog.wantsStandIn t) = true := by kernel_rfl
 have := Array.all_eq_true_iff_forall_mem.1 hc t hm
 exact (by simpa using this : Tryz.prog.wantsStandIn t = false)
end Go.Proofs.YtobanldeicclmaaGreatDoor.fnValueParsesMatchSpec
namespace Go.Proofs.YtobanldeicclmaaGreatDoor
theorem valueParsesMatchSpec_card : Rows.ValueParsesMatchSpecCardSaid :=
 Claim7.holds_tied_plain_at .later [] _ _ _ _ fnValueParsesMatchSpec.said (fun _ h => by cases h) (by kernel_rfl) (fun _ h => by cases h) valueParsesMatchSpec_row_tie rfl ⟨rfl, rfl⟩ (by kernel_rfl) rfl fnValueParsesMatchSpec.plain (by kernel_rfl)
#print axioms valueParsesMatchSpec_card
end Go.Proofs.YtobanldeicclmaaGreatDoor
