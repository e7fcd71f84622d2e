/- 'FormTranslationsComeBack' is proved, as the card: for every input of bulk at most 1048576 the law returns true and leaves its arguments as they were. Its row lists tables of Go's library; the given tie holds them against the program's text. -/
import Derived.Test.YtcnagconagpkcaaGreatDoorZ25
import Derived.Deep.DeepWitnessRowRef
set_option maxHeartbeats 8000000
set_option maxRecDepth 100000
namespace Go.Proofs.YtcnagconagpkcaaGreatDoor
namespace fnFormTranslationsComeBack
open Go.ChangeShapes Go.WideShapes Go.ChangeAt Go.RowKit Go.Joins
theorem Hz {P:Program} {W:World} {r:Reach} {base:Nat} {t e:TypeId} {v:Value} (b:P.underlying t=some (.slice e)) (h:Value.okWide P W r base t v):∀ cs,v≠.agg cs:=by
 intro cs a;subst a;simp[Value.okWide,Cell.okWide,Cell.ok,b] at h
theorem Fj {P:Program} {W:World} {r:Reach} {base:Nat} {t:TypeId} {v:Value} (b:P.underlying t=some .string) (h:Value.okWide P W r base t v):∀ cs,v≠.agg cs:=by
 intro cs a;subst a;simp[Value.okWide,Cell.okWide,Cell.ok,b] at h
theorem one_cell {v u:Value} (a:∀ cs,v≠.agg cs) (h:v.cells.toList = [u]):v=u:=by
 cases v <;> first | exact absurd rfl (a _) | (simpa [Value.cells] using h)
theorem contract (H:Type) (enc:TypeId × Value->H) (W:World) (base:Nat) (args:Array Value) (ds N:List (DataW H)) (before:List MemPlace)
  (a:∀ (j:Nat) t v,Tryz.f3.params[j]?=some t->args[j]?=some v->Value.okWide Tryz.prog W .any base t v)
  (V:DataW.Whole enc Tryz.prog Tryz.f3.params.toList Rows.formTranslationsComeBackSpec.vars false W args.toList ds N before) (hL:laidMetH Tryz.prog Rows.formTranslationsComeBackUptoRow.laid W) (hk:Rows.uptoSmall H (ds ++ N)=true) (Q:Mx W) :
  Calls Tryz.prog 3 args W λ e W'=>∃ v,e = .returned v/\Rows.formTranslationsComeBackSpec.post enc Tryz.prog Tryz.f3 false true false false W args v W':=by
 have E:DataW.Whole enc Tryz.prog Tryz.f3.params.toList [] false W args.toList ds N before:=V;obtain⟨p,q,f,hV,rfl,ag,aa⟩:=V;have X:DataW.TrodAll enc Tryz.prog W 0 (λ _=>true) true Tryz.f3.params.toList args.toList ds p:=f;rw[Tryz.params3] at X a;obtain⟨v0,ak,d0,ae,p0,q0,R,rfl,rfl,h0,r0⟩:=trodAll_cons X;obtain⟨v1,am,d1,Z,p1,q1,rfl,rfl,rfl,h1,r1⟩:=trodAll_cons r0;obtain⟨v2,al,d2,ac,p2,q2,rfl,rfl,rfl,h2,r2⟩:=trodAll_cons r1;obtain⟨rfl,rfl,rfl⟩:=trodAll_nil r2;obtain rfl:args = #[v0,v1,v2]:=by cases args;simp_all
 obtain⟨rfl,rfl⟩:=trodVars_none hV;have l:Tab W:=afn hL;obtain⟨y,rfl,-⟩:=okWide_struct Tryz.underlying26 (a 0 _ v0 rfl rfl);obtain⟨K,O⟩:=h0;obtain⟨c,u,B,g,m,o,s,w,C,r,YF,U,n,M,A⟩:=acE (show DataW.trod enc Tryz.prog W 0 (λ _=>true) true K 26 y.toList=_ from O);have A:Fp c.items<=Rows.uptoBulk d0:=A;obtain rfl:y = #[.string c.nm,.int .i64 c.jo,.slice u c.ag.length m,.slice B c.lists.length o,.slice g c.items.length s]:=by rw[<- w]
 obtain⟨ab,L⟩:=h1;obtain⟨s1,k,i⟩:=YG L;obtain rfl:v1 = .string s1:=one_cell (Fj Tryz.underlying9 (a 1 _ v1 rfl rfl)) k;have i:s1.size+1=Rows.uptoBulk d1:=i;obtain⟨ad,S⟩:=h2;obtain⟨G,P,T,z,F,b,Y⟩:=QJ S;obtain rfl:v2 = .slice G P.length T:=one_cell (Hz Tryz.underlying27 (a 2 _ v2 rfl rfl)) z;have b:∀ e∈P,e.1.size<=Rows.uptoBulk d2/\e.2.size<=Rows.uptoBulk d2:=b;have Y:P.length+1<=Rows.uptoBulk d2:=Y;have D:Rows.uptoBulkAll [d0,d1,d2]<=1048576:=of_decide_eq_true hk;simp only[Rows.uptoBulkAll] at D;have I:Small 1048576 (ai c):=yh c.items [] (-1) 0 1 [] (λ d h=>by cases h) (by omega);clear f a;refine (YI (x:=⟨u,m,B,o,g,s,none,0⟩) ⟨C,r,YF,U,n,M⟩ (acF I) (by omega) l Q F (λ e J=>by have:=b e J;omega) (by omega) (by omega)).mono λ e W' ⟨J,hb⟩=>?_;subst J;exact⟨_,rfl,YJ (by rw[Tryz.params3];decide +kernel) rfl rfl rfl rfl rfl E hb⟩
theorem laid_met (a:Os):laidMet Tryz.prog Rows.formTranslationsComeBackUptoRow.laid ((laidWorld a).forCall (λ _ _=>0) ⟨#[],#[.agg #[.string ⟨#[]⟩,.int .i64 0,.slice none 0 0,.slice none 0 0,.slice none 0 0],.string .empty,.slice none 0 0],[]⟩).memory:=
 laidMet_of_run3 8 (by kernel_rfl) (by kernel_rfl) (by kernel_rfl)
theorem reads (b:Os) {H:Type} (enc:TypeId × Value->H):∃ a,DataW.whole enc Tryz.prog ((laidWorld b).forCall (λ _ _=>0) ⟨#[],#[.agg #[.string ⟨#[]⟩,.int .i64 0,.slice none 0 0,.slice none 0 0,.slice none 0 0],.string .empty,.slice none 0 0],[]⟩).memory Tryz.f3.params.toList Rows.formTranslationsComeBackSpec.vars false #[.agg #[.string ⟨#[]⟩,.int .i64 0,.slice none 0 0,.slice none 0 0,.slice none 0 0],.string .empty,.slice none 0 0].toList 8=some ([.agg [.lit (.string []),.lit (.int .i64 0),.nil,.nil,.nil],.lit (.string []),.nil],[],a):=
 ⟨[],by kernel_rfl⟩
theorem lifted (c:Os) (a:c.Started) (H:Type) (enc:TypeId × Value->H) (F:Stop.Interp) :
  ReturnsInHanded {} Tryz.checked c 3 .any ((Rows.OpenSpec.upto Rows.formTranslationsComeBackSpec).preRow enc Tryz.prog Tryz.f3 Rows.formTranslationsComeBackUptoRow.domain false Rows.formTranslationsComeBackUptoRow.laid) (((Rows.OpenSpec.upto Rows.formTranslationsComeBackSpec).at F).post enc Tryz.prog Tryz.f3 false true false false):=by
 obtain⟨e,h⟩:=reads c enc;refine returnsInHanded_of_row (C:=Tryz.checked) (s:=Rows.OpenSpec.upto Rows.formTranslationsComeBackSpec) own a (by kernel_rfl) Tryz.func3
  (witness_row_atRef (enc:=enc) (C:=Tryz.checked) false (laidWorld c) #[.agg #[.string ⟨#[]⟩,.int .i64 0,.slice none 0 0,.slice none 0 0,.slice none 0 0],.string .empty,.slice none 0 0] rfl (by kernel_rfl) (by kernel_rfl) (by kernel_rfl)
   (OpenSpec.preRow_of_cond 8 h (by kernel_rfl) (λ k g=>by cases g;kernel_rfl) (by kernel_rfl) (laid_met c))) ?_
 intro W base args ds i b d l _ g _ j f _;exact contract H enc W base args ds i b d l j (g _ rfl) (aiS f)
theorem afo {a b:Bool} (d:a=true) (c:b=true):(a && b)=true:=by rw[d,c];rfl
theorem acG:Tryz.pinned.checked.prog.funcNamed Rows.formTranslationsComeBackUptoRow.func=some 3:=by kernel_rfl
theorem joined:Go.joinedFacts Tryz.pinned.checked.prog 3 Tryz.f3 (Rows.OpenSpec.upto Rows.formTranslationsComeBackSpec).bare Rows.formTranslationsComeBackUptoRow=true:=by
 rw[Go.joinedFacts]
 repeat' (with_reducible apply afo)
 all_goals as_aux_lemma=>kernel_rfl
theorem said:Rows.FormTranslationsComeBackUptoSaid:=
 OpenClaim.holds_of_cond 3 Tryz.f3 rfl rfl rfl rfl rfl rfl rfl ⟨rfl,rfl,rfl,rfl,rfl⟩ rfl rfl rfl rfl rfl acG Tryz.func3 joined
  (of_decide_eq_true (by kernel_rfl)) (by unfold Func.isWrapper;first | (rw[if_pos (by decide +kernel)];kernel_rfl) | (rw[if_neg (by decide +kernel)];exact⟨rfl,rfl⟩))
  (λ b a H enc _ F=>by rw[OpenClaim.pre_eq_preRow];exact lifted b a H enc F)
theorem plain (f:FuncId) (d:Func) (g:Tryz.pinned.checked.prog.funcNamed "canvass/canvasslaw2.FormTranslationsComeBack" = some f) (c:Tryz.pinned.checked.prog.funcs[f]?=some d) :
  true=Tryz.pinned.checked.prog.looks []/\∀ (j:Nat) t,d.params[j]?=some t->Tryz.pinned.checked.prog.wantsStandIn t=false:=by
 obtain rfl:f=3:=Option.some.inj ((show Tryz.prog.funcNamed "canvass/canvasslaw2.FormTranslationsComeBack" = some 3 by kernel_rfl).symm.trans g) |>.symm;obtain rfl:d=Tryz.f3:=(Option.some.inj (Tryz.func3.symm.trans c)).symm;refine⟨by kernel_rfl,λ j t e=>?_⟩;rw[Tryz.params3] at e;have h:=Array.mem_of_getElem? e;have i:(#[26,9,27]:Array TypeId).all (λ t=>!Tryz.prog.wantsStandIn t)=true:=by kernel_rfl
 have:=Array.all_eq_true_iff_forall_mem.1 i t h;exact (by simpa using this:Tryz.prog.wantsStandIn t=false)
end fnFormTranslationsComeBack
theorem formTranslationsComeBackUpto_card:Rows.FormTranslationsComeBackUptoCardSaid:=
 Claim7.holds_tied_plain_at .later [] _ _ _ _ fnFormTranslationsComeBack.said (λ _ h=>by cases h) (by kernel_rfl) (λ _ h=>by cases h) formTranslationsComeBackUpto_row_tie rfl ⟨rfl,rfl⟩ (by kernel_rfl) rfl fnFormTranslationsComeBack.plain (by kernel_rfl)
#print axioms formTranslationsComeBackUpto_card
end Go.Proofs.YtcnagconagpkcaaGreatDoor
