/- 'FormBlanksAreScenes' is proved, as the card: for every input of bulk at most 1048576 the law returns true and leaves its arguments as they were. Its row lists tables of Go's library; the given tie holds them against the program's text. -/
import Derived.Test.YtcnagconagpkcaaGreatDoorZ27
import Derived.Deep.DeepWitnessRowRef
set_option maxHeartbeats 8000000
set_option maxRecDepth 100000
namespace Go.Proofs.YtcnagconagpkcaaGreatDoor.fnFormBlanksAreScenes
open Go.ChangeShapes Go.WideShapes Go.ChangeAt Go.RowKit Go.Joins
theorem aaY {P:Program} {W:World} {r:Reach} {base:Nat} {t e:TypeId} {v:Value} (b:P.underlying t=some (.slice e)) (h:Value.okWide P W r base t v):∀ cs,v≠.agg cs:=by
 intro cs a;subst a;simp[Value.okWide,Cell.okWide,Cell.ok,b] at h
theorem one_cell {v u:Value} (a:∀ cs,v≠.agg cs) (h:v.cells.toList = [u]):v=u:=by
 cases v <;> first | exact absurd rfl (a _) | (simpa [Value.cells] using h)
theorem contract (H:Type) (enc:TypeId × Value->H) (W:World) (base:Nat) (args:Array Value) (ds C:List (DataW H)) (before:List MemPlace)
  (a:∀ (j:Nat) t v,Tryz.f4.params[j]?=some t->args[j]?=some v->Value.okWide Tryz.prog W .any base t v)
  (N:DataW.Whole enc Tryz.prog Tryz.f4.params.toList Rows.formBlanksAreScenesSpec.vars false W args.toList ds C before) (J:laidMetH Tryz.prog Rows.formBlanksAreScenesUptoRow.laid W) (Z:Rows.uptoSmall H (ds ++ C)=true) (s:Mx W) :
  Calls Tryz.prog 4 args W λ e W'=>∃ v,e = .returned v/\Rows.formBlanksAreScenesSpec.post enc Tryz.prog Tryz.f4 false true false false W args v W':=by
 have m:DataW.Whole enc Tryz.prog Tryz.f4.params.toList [] false W args.toList ds C before:=N;obtain⟨p,q,c,V,rfl,U,Q⟩:=N;have L:DataW.TrodAll enc Tryz.prog W 0 (λ _=>true) true Tryz.f4.params.toList args.toList ds p:=c;rw[Tryz.params4] at L a;obtain⟨E,Y,d0,P,p0,q0,n,rfl,rfl,X,T⟩:=trodAll_cons L;obtain⟨rfl,rfl,rfl⟩:=trodAll_nil T;obtain rfl:args = #[E]:=by cases args;simp_all
 obtain⟨rfl,rfl⟩:=trodVars_none V;have b:Tab W:=aeO J;obtain⟨i,rfl,-⟩:=okWide_struct Tryz.underlying26 (a 0 _ E rfl rfl);obtain⟨z,r⟩:=X;obtain⟨f,O,M,K,D,G,I,y,k,A,o,w,hit,l,g⟩:=abX (show DataW.trod enc Tryz.prog W 0 (λ _=>true) true z 26 i.toList=_ from r);have g:QU f.items<=Rows.uptoBulk d0:=g;obtain rfl:i = #[.string f.nm,.int .i64 f.zW,.slice O f.bD.length D,.slice M f.lists.length G,.slice K f.items.length I]:=by rw[<- y]
 have u:Sp W:=ahB J;have B:Rows.uptoBulkAll [d0]<=1048576:=of_decide_eq_true Z;simp only[Rows.uptoBulkAll] at B;have F:Small 1048576 (aK f):=zy f.items [] (-1) 0 1 [] (λ d h=>by cases h) (by omega);clear c a;refine (QV (x:=⟨O,D,M,G,K,I,none,0⟩) ⟨k,A,o,w,hit,l⟩ (abY F) F b s u b).mono λ e W' ⟨R,S⟩=>?_;subst R;exact⟨_,rfl,Yk (by rw[Tryz.params4];decide +kernel) rfl rfl rfl rfl rfl m S⟩
theorem laid_met (a:Os):laidMet Tryz.prog Rows.formBlanksAreScenesUptoRow.laid ((laidWorld a).forCall (λ _ _=>0) ⟨#[],#[.agg #[.string ⟨#[]⟩,.int .i64 0,.slice none 0 0,.slice none 0 0,.slice none 0 0]],[]⟩).memory:=
 laidMet_of_run3 8 (by kernel_rfl) (by kernel_rfl) (by kernel_rfl)
theorem reads (b:Os) {H:Type} (enc:TypeId × Value->H):∃ a,DataW.whole enc Tryz.prog ((laidWorld b).forCall (λ _ _=>0) ⟨#[],#[.agg #[.string ⟨#[]⟩,.int .i64 0,.slice none 0 0,.slice none 0 0,.slice none 0 0]],[]⟩).memory Tryz.f4.params.toList Rows.formBlanksAreScenesSpec.vars false #[.agg #[.string ⟨#[]⟩,.int .i64 0,.slice none 0 0,.slice none 0 0,.slice none 0 0]].toList 8=some ([.agg [.lit (.string []),.lit (.int .i64 0),.nil,.nil,.nil]],[],a):=
 ⟨[],by kernel_rfl⟩
theorem lifted (c:Os) (a:c.Started) (H:Type) (enc:TypeId × Value->H) (F:Stop.Interp) :
  ReturnsInHanded {} Tryz.checked c 4 .any ((Rows.OpenSpec.upto Rows.formBlanksAreScenesSpec).preRow enc Tryz.prog Tryz.f4 Rows.formBlanksAreScenesUptoRow.domain false Rows.formBlanksAreScenesUptoRow.laid) (((Rows.OpenSpec.upto Rows.formBlanksAreScenesSpec).at F).post enc Tryz.prog Tryz.f4 false true false false):=by
 obtain⟨e,j⟩:=reads c enc;refine returnsInHanded_of_row (C:=Tryz.checked) (s:=Rows.OpenSpec.upto Rows.formBlanksAreScenesSpec) own a (by kernel_rfl) Tryz.func4
  (witness_row_atRef (enc:=enc) (C:=Tryz.checked) false (laidWorld c) #[.agg #[.string ⟨#[]⟩,.int .i64 0,.slice none 0 0,.slice none 0 0,.slice none 0 0]] rfl (by kernel_rfl) (by kernel_rfl) (by kernel_rfl)
   (OpenSpec.preRow_of_cond 8 j (by kernel_rfl) (λ k f=>by cases f;kernel_rfl) (by kernel_rfl) (laid_met c))) ?_
 intro W base args ds l b d i _ f _ h g _;exact contract H enc W base args ds l b d i h (f _ rfl) (ahC g)
theorem aeP {a b:Bool} (d:a=true) (c:b=true):(a && b)=true:=by rw[d,c];rfl
theorem abZ:Tryz.pinned.checked.prog.funcNamed Rows.formBlanksAreScenesUptoRow.func=some 4:=by kernel_rfl
theorem joined:Go.joinedFacts Tryz.pinned.checked.prog 4 Tryz.f4 (Rows.OpenSpec.upto Rows.formBlanksAreScenesSpec).bare Rows.formBlanksAreScenesUptoRow=true:=by
 rw[Go.joinedFacts]
 repeat' (with_reducible apply aeP)
 all_goals as_aux_lemma=>kernel_rfl
theorem said:Rows.FormBlanksAreScenesUptoSaid:=
 OpenClaim.holds_of_cond 4 Tryz.f4 rfl rfl rfl rfl rfl rfl rfl ⟨rfl,rfl,rfl,rfl,rfl⟩ rfl rfl rfl rfl rfl abZ Tryz.func4 joined
  (of_decide_eq_true (by kernel_rfl)) (by unfold Func.isWrapper;first | (rw[if_pos (by decide +kernel)];kernel_rfl) | (rw[if_neg (by decide +kernel)];exact⟨rfl,rfl⟩))
  (λ b a H enc _ F=>by rw[OpenClaim.pre_eq_preRow];exact lifted b a H enc F)
theorem plain (f:FuncId) (d:Func) (h:Tryz.pinned.checked.prog.funcNamed "canvass/canvasslaw2.FormBlanksAreScenes" = some f) (c:Tryz.pinned.checked.prog.funcs[f]?=some d) :
  true=Tryz.pinned.checked.prog.looks []/\∀ (j:Nat) t,d.params[j]?=some t->Tryz.pinned.checked.prog.wantsStandIn t=false:=by
 obtain rfl:f=4:=Option.some.inj ((show Tryz.prog.funcNamed "canvass/canvasslaw2.FormBlanksAreScenes" = some 4 by kernel_rfl).symm.trans h) |>.symm;obtain rfl:d=Tryz.f4:=(Option.some.inj (Tryz.func4.symm.trans c)).symm;refine⟨by kernel_rfl,λ j t e=>?_⟩;rw[Tryz.params4] at e;have g:=Array.mem_of_getElem? e;have i:(#[26]:Array TypeId).all (λ t=>!Tryz.prog.wantsStandIn t)=true:=by kernel_rfl
 have:=Array.all_eq_true_iff_forall_mem.1 i t g;exact (by simpa using this:Tryz.prog.wantsStandIn t=false)
end Go.Proofs.YtcnagconagpkcaaGreatDoor.fnFormBlanksAreScenes
namespace Go.Proofs.YtcnagconagpkcaaGreatDoor
theorem formBlanksAreScenesUpto_card:Rows.FormBlanksAreScenesUptoCardSaid:=
 Claim7.holds_tied_plain_at .later [] _ _ _ _ fnFormBlanksAreScenes.said (λ _ h=>by cases h) (by kernel_rfl) (λ _ h=>by cases h) formBlanksAreScenesUpto_row_tie rfl ⟨rfl,rfl⟩ (by kernel_rfl) rfl fnFormBlanksAreScenes.plain (by kernel_rfl)
#print axioms formBlanksAreScenesUpto_card
end Go.Proofs.YtcnagconagpkcaaGreatDoor
