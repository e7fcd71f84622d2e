/- 'FormDifferencesTellAll' is proved, as the card: for every input of bulk at most 1048576 the law returns true and leaves its arguments as they were. Its row lists tables of Go's library; the given tie holds them against the program's text. -/
import Derived.Test.YtcnagconagpkcaaGreatDoorZ28
import Derived.Deep.DeepWitnessRowRef
set_option maxHeartbeats 8000000
set_option maxRecDepth 100000
namespace Go.Proofs.YtcnagconagpkcaaGreatDoor.fnFormDifferencesTellAll
open Go.ChangeShapes Go.WideShapes Go.ChangeAt Go.RowKit Go.Joins
theorem aaK {P:Program} {W:World} {r:Reach} {base:Nat} {t e:TypeId} {v:Value} (b:P.underlying t=some (.slice e)) (h:Value.okWide P W r base t v):∀ cs,v≠.agg cs:=by
 intro cs a;subst a;simp[Value.okWide,Cell.okWide,Cell.ok,b] at h
theorem one_cell {v u:Value} (a:∀ cs,v≠.agg cs) (h:v.cells.toList = [u]):v=u:=by
 cases v <;> first | exact absurd rfl (a _) | (simpa [Value.cells] using h)
theorem contract (H:Type) (enc:TypeId × Value->H) (W:World) (base:Nat) (args:Array Value) (ds T:List (DataW H)) (before:List MemPlace)
  (a:∀ (j:Nat) t v,Tryz.f5.params[j]?=some t->args[j]?=some v->Value.okWide Tryz.prog W .any base t v)
  (hW:DataW.Whole enc Tryz.prog Tryz.f5.params.toList Rows.formDifferencesTellAllSpec.vars false W args.toList ds T before) (hL:laidMetH Tryz.prog Rows.formDifferencesTellAllUptoRow.laid W) (hk:Rows.uptoSmall H (ds ++ T)=true) (ac:Mx W) :
  Calls Tryz.prog 5 args W λ e W'=>∃ v,e = .returned v/\Rows.formDifferencesTellAllSpec.post enc Tryz.prog Tryz.f5 false true false false W args v W':=by
 have O:DataW.Whole enc Tryz.prog Tryz.f5.params.toList [] false W args.toList ds T before:=hW;obtain⟨p,q,G,hV,rfl,ap,al⟩:=hW;have hA:DataW.TrodAll enc Tryz.prog W 0 (λ _=>true) true Tryz.f5.params.toList args.toList ds p:=G;rw[Tryz.params5] at hA a;obtain⟨v0,ao,d0,an,p0,q0,ae,rfl,rfl,h0,r0⟩:=trodAll_cons hA;obtain⟨v1,aq,d1,am,p1,q1,rfl,rfl,rfl,h1,r1⟩:=trodAll_cons r0;obtain⟨rfl,rfl,rfl⟩:=trodAll_nil r1;obtain rfl:args = #[v0,v1]:=by cases args;simp_all
 obtain⟨rfl,rfl⟩:=trodVars_none hV;have B:Tab W:=ad4 hL;obtain⟨I,rfl,-⟩:=okWide_struct Tryz.underlying26 (a 0 _ v0 rfl rfl);obtain⟨Y,aa⟩:=h0;obtain⟨c,k,s,z,C,D,E,J,P,f,U,R,i,M,m⟩:=SY (show DataW.trod enc Tryz.prog W 0 (λ _=>true) true Y 26 I.toList=_ from aa);have m:WM c.items<=Rows.uptoBulk d0:=m;obtain rfl:I = #[.string c.nm,.int .i64 c.ig,.slice k c.aA.length C,.slice s c.lists.length D,.slice z c.items.length E]:=by rw[<- J]
 obtain⟨n,rfl,-⟩:=okWide_struct Tryz.underlying26 (a 1 _ v1 rfl rfl);obtain⟨Q,Z⟩:=h1;obtain⟨b,u,l,F,r,w,g,o,ab,N,S,ak,ad,L,A⟩:=SY (show DataW.trod enc Tryz.prog W 0 (λ _=>true) true Q 26 n.toList=_ from Z);have A:WM b.items<=Rows.uptoBulk d1:=A;obtain rfl:n = #[.string b.nm,.int .i64 b.ig,.slice u b.aA.length r,.slice l b.lists.length w,.slice F b.items.length g]:=by rw[<- o]
 have V:Rows.uptoBulkAll [d0,d1]<=1048576:=of_decide_eq_true hk;simp only[Rows.uptoBulkAll] at V;have K:Small 1048576 (aC c):=uA c.items [] (-1) 0 1 [] (λ d h=>by cases h) (by omega);have X:Small 1048576 (aC b):=uA b.items [] (-1) 0 1 [] (λ d h=>by cases h) (by omega);clear G a;refine (U2 (x:=⟨k,C,s,D,z,E,none,0⟩) (y:=⟨u,r,l,w,F,g,none,0⟩) ⟨P,f,U,R,i,M⟩ ⟨ab,N,S,ak,ad,L⟩ (Tc K) (Tc X) B ac).mono λ e W' ⟨he,hb⟩=>?_;subst he;exact⟨_,rfl,Yg (by rw[Tryz.params5];decide +kernel) rfl rfl rfl rfl rfl O hb⟩
theorem laid_met (os:Os):laidMet Tryz.prog Rows.formDifferencesTellAllUptoRow.laid ((laidWorld os).forCall (λ _ _=>0) ⟨#[],#[.agg #[.string ⟨#[]⟩,.int .i64 0,.slice none 0 0,.slice none 0 0,.slice none 0 0],.agg #[.string ⟨#[]⟩,.int .i64 0,.slice none 0 0,.slice none 0 0,.slice none 0 0]],[]⟩).memory:=
 laidMet_of_run3 8 (by kernel_rfl) (by kernel_rfl) (by kernel_rfl)
theorem reads (os:Os) {H:Type} (enc:TypeId × Value->H):∃ a,DataW.whole enc Tryz.prog ((laidWorld os).forCall (λ _ _=>0) ⟨#[],#[.agg #[.string ⟨#[]⟩,.int .i64 0,.slice none 0 0,.slice none 0 0,.slice none 0 0],.agg #[.string ⟨#[]⟩,.int .i64 0,.slice none 0 0,.slice none 0 0,.slice none 0 0]],[]⟩).memory Tryz.f5.params.toList Rows.formDifferencesTellAllSpec.vars false #[.agg #[.string ⟨#[]⟩,.int .i64 0,.slice none 0 0,.slice none 0 0,.slice none 0 0],.agg #[.string ⟨#[]⟩,.int .i64 0,.slice none 0 0,.slice none 0 0,.slice none 0 0]].toList 8=some ([.agg [.lit (.string []),.lit (.int .i64 0),.nil,.nil,.nil],.agg [.lit (.string []),.lit (.int .i64 0),.nil,.nil,.nil]],[],a):=
 ⟨[],by kernel_rfl⟩
theorem lifted (os:Os) (a:os.Started) (H:Type) (enc:TypeId × Value->H) (F:Stop.Interp) :
  ReturnsInHanded {} Tryz.checked os 5 .any ((Rows.OpenSpec.upto Rows.formDifferencesTellAllSpec).preRow enc Tryz.prog Tryz.f5 Rows.formDifferencesTellAllUptoRow.domain false Rows.formDifferencesTellAllUptoRow.laid) (((Rows.OpenSpec.upto Rows.formDifferencesTellAllSpec).at F).post enc Tryz.prog Tryz.f5 false true false false):=by
 obtain⟨d,g⟩:=reads os enc;refine returnsInHanded_of_row (C:=Tryz.checked) (s:=Rows.OpenSpec.upto Rows.formDifferencesTellAllSpec) own a (by kernel_rfl) Tryz.func5
  (witness_row_atRef (enc:=enc) (C:=Tryz.checked) false (laidWorld os) #[.agg #[.string ⟨#[]⟩,.int .i64 0,.slice none 0 0,.slice none 0 0,.slice none 0 0],.agg #[.string ⟨#[]⟩,.int .i64 0,.slice none 0 0,.slice none 0 0,.slice none 0 0]] rfl (by kernel_rfl) (by kernel_rfl) (by kernel_rfl)
   (OpenSpec.preRow_of_cond 8 g (by kernel_rfl) (λ k f=>by cases f;kernel_rfl) (by kernel_rfl) (laid_met os))) ?_
 intro W base args ds i b c j _ f _ h e _;exact contract H enc W base args ds i b c j h (f _ rfl) (ahk e)
theorem ad5 {a b:Bool} (c:a=true) (d:b=true):(a && b)=true:=by rw[c,d];rfl
theorem abJ:Tryz.pinned.checked.prog.funcNamed Rows.formDifferencesTellAllUptoRow.func=some 5:=by kernel_rfl
theorem joined:Go.joinedFacts Tryz.pinned.checked.prog 5 Tryz.f5 (Rows.OpenSpec.upto Rows.formDifferencesTellAllSpec).bare Rows.formDifferencesTellAllUptoRow=true:=by
 rw[Go.joinedFacts]
 repeat' (with_reducible apply ad5)
 all_goals as_aux_lemma=>kernel_rfl
theorem said:Rows.FormDifferencesTellAllUptoSaid:=
 OpenClaim.holds_of_cond 5 Tryz.f5 rfl rfl rfl rfl rfl rfl rfl ⟨rfl,rfl,rfl,rfl,rfl⟩ rfl rfl rfl rfl rfl abJ Tryz.func5 joined
  (of_decide_eq_true (by kernel_rfl)) (by unfold Func.isWrapper;first | (rw[if_pos (by decide +kernel)];kernel_rfl) | (rw[if_neg (by decide +kernel)];exact⟨rfl,rfl⟩))
  (λ os a H enc _ F=>by rw[OpenClaim.pre_eq_preRow];exact lifted os a H enc F)
theorem plain (f:FuncId) (c:Func) (h:Tryz.pinned.checked.prog.funcNamed "canvass/canvasslaw2.FormDifferencesTellAll" = some f) (d:Tryz.pinned.checked.prog.funcs[f]?=some c) :
  true=Tryz.pinned.checked.prog.looks []/\∀ (j:Nat) t,c.params[j]?=some t->Tryz.pinned.checked.prog.wantsStandIn t=false:=by
 obtain rfl:f=5:=Option.some.inj ((show Tryz.prog.funcNamed "canvass/canvasslaw2.FormDifferencesTellAll" = some 5 by kernel_rfl).symm.trans h) |>.symm;obtain rfl:c=Tryz.f5:=(Option.some.inj (Tryz.func5.symm.trans d)).symm;refine⟨by kernel_rfl,λ j t e=>?_⟩;rw[Tryz.params5] at e;have i:=Array.mem_of_getElem? e;have g:(#[26,26]:Array TypeId).all (λ t=>!Tryz.prog.wantsStandIn t)=true:=by kernel_rfl
 have:=Array.all_eq_true_iff_forall_mem.1 g t i;exact (by simpa using this:Tryz.prog.wantsStandIn t=false)
end Go.Proofs.YtcnagconagpkcaaGreatDoor.fnFormDifferencesTellAll
namespace Go.Proofs.YtcnagconagpkcaaGreatDoor
theorem formDifferencesTellAllUpto_card:Rows.FormDifferencesTellAllUptoCardSaid:=
 Claim7.holds_tied_plain_at .later [] _ _ _ _ fnFormDifferencesTellAll.said (λ _ h=>by cases h) (by kernel_rfl) (λ _ h=>by cases h) formDifferencesTellAllUpto_row_tie rfl ⟨rfl,rfl⟩ (by kernel_rfl) rfl fnFormDifferencesTellAll.plain (by kernel_rfl)
#print axioms formDifferencesTellAllUpto_card
end Go.Proofs.YtcnagconagpkcaaGreatDoor
