/- Lemmas. -/
import Derived.Test.YtcnagconagpkcaaGreatDoorZ25
import Derived.Lib.AppendZeros
open Go.Value renaming int->cr, string->cv, slice->cw, pointer->cx, bool->cz, oneCell'->cF
open Go.IntKind renaming i64->ct
open Go.Ending renaming returned->cA
open And renaming intro->cB
open Nat renaming zero_le->cC, le_trans->cD, le_refl->cI, lt_of_lt_of_le->cQ, eq_zero_or_pos->cS
open List renaming getElem_mem->cE, length_append->cG, mem_cons->cH, nil_append->cJ, append_nil->cK, map_cons->cM, sum_cons->cN, getElem?_drop->cO, getElem?_eq_getElem->cP, mem_append->cT
open Go.Lib renaming wpList_append_run->cL
namespace Go.Proofs.YtcnagconagpkcaaGreatDoor
open Go.RowKit
attribute [local go_sem ↓] Go.wp_at_zero Go.wp_at_succ
attribute [local go_sem ↓] ld_item st_item ld_ans st_ans ld_rule st_rule
set_option maxHeartbeats 4000000
set_option maxRecDepth 100000
def aaw (x:ItemD):Prop:=∀ (w:World) (B:Nat) (ci:List Value),gY w B x ci->B<=w.heap.size->x.cu<=1048576->Calls Tryz.prog 37 #[.agg ci.toArray] w λ en w'=>(∃ co:List Value,en = cA (.agg co.toArray)/\co.length=19/\(∀ v∈co,v.oneCell'=true)/\(∃ v,co[2]?=some v/\mr (w.heap.size+2) w' x.iff v)/\∃ v,co[18]?=some v/\mr (w.heap.size+2) w' x.cmp v)/\IY w w'
theorem Il {a:List Value} (h:a.length=19) (b c d:Value):(((a.set 2 b).set 6 c).set 18 d)[3]?=a[3]?/\(((a.set 2 b).set 6 c).set 18 d)[4]?=a[4]?/\((((a.set 2 b).set 6 c).set 18 d).drop 8).take 10=(a.drop 8).take 10:=by
 obtain⟨o,b,c,d,s,t,p,u,r,q,n,g,j,l,i,e,m,f,k,rfl⟩:=Z8 h;exact⟨rfl,rfl,rfl⟩
def R3 (w wd:World) (x:ItemD) (v3 v4:Value) (an:List Value):Prop:=∃ ci,R2 w wd x ci/\ci[3]?=some v3/\ci[4]?=some v4/\(ci.drop 8).take 10=an
theorem R1.cells {w a:World} {x:ItemD} {b:List Value} {c d:Option Value} (h:R1 w a x b c d):a.frozen? ⟨w.heap.size,2,none⟩=false/\a.frozen? ⟨w.heap.size,6,none⟩=false/\a.frozen? ⟨w.heap.size,18,none⟩=false/\a.cell? ⟨w.heap.size,2,none⟩=b[2]?/\a.cell? ⟨w.heap.size,6,none⟩=b[6]?/\a.cell? ⟨w.heap.size,18,none⟩=b[18]?:=
 ⟨h.b1.frozen _,h.b1.frozen _,h.b1.frozen _,by rw[h.b1.cell];simp,by rw[h.b1.cell];simp,by rw[h.b1.cell];simp⟩
theorem R1.drew {w a:World} {x:ItemD} {c:List Value} {b o3:Option Value} (h:R1 w a x c b o3):R1 w a.drew x c b o3:=h.later (Below.refl _ _).drew
theorem Qb {a:List Value} (h:a.length=19) (v:Value):(a.set 3 v)[4]?=a[4]?/\((a.set 3 v).drop 8).take 10=(a.drop 8).take 10:=by
 obtain⟨m,l,s,t,q,r,n,u,p,o,k,d,f,i,e,b,j,c,g,rfl⟩:=Z8 h;exact⟨rfl,rfl⟩
theorem aax:(Tryz.prog.info? 144).map (λ i=>(i.zero,i.size,i.bytes))=some (some (.agg #[.int .i64 0,.int .i64 0,.string ⟨#[]⟩,.int .i64 0,.int .i64 0,.string ⟨#[]⟩,.slice none 0 0,.slice none 0 0,.bool false,.slice none 0 0]),10,144):=by kernel_rfl
theorem Uk:∀ l:List vS,l.length<=(l.map (λ r=>r.must.bl+r.ph.length+1)).sum
 | []=>cC _
 | a :: r=>by have:=Uk r;simp only[cM,cN,List.length_cons];omega
theorem MN {a:vS}:∀ {l:List vS},a∈l->a.must.bl+a.ph.length+1<=(l.map (λ r=>r.must.bl+r.ph.length+1)).sum
 | b :: r,h=>by
  simp only[cM,cN];rcases cH.1 h with e | e
  .rw[e];omega
  .have:=MN e;omega
theorem afZ:(Tryz.prog.info? 59).map (λ i=>(i.zero,i.size,i.bytes))=some (some (.agg #[.int .i64 0,.string ⟨#[]⟩,.slice none 0 0,.slice none 0 0,.slice none 0 0,.bool false,.slice none 0 0,.string ⟨#[]⟩,.int .i64 0,.int .i64 0,.int .i64 0,.int .i64 0,.string ⟨#[]⟩,.slice none 0 0,.bool false,.slice none 0 0,.bool false,.slice none 0 0,.slice none 0 0]),19,304):=by kernel_rfl
theorem bs_item (ρ:Operand->Value) (c:Option Tmp) (a:Operand) (ty:TypeId) (pos:String) (b:Array Edge) (guard:Option (Nat × Bool)) :
  execOp ρ { dst:=c,op:=.buildSlice 24 1 #[(0,a)],type:=ty,pos,after:=b,guard } = (do pure (.value (<- BSx 24 1 #[(0,ρ a)]))):=by
 show (do pure (Next.value (<- BSx 24 1 ((#[(0,a)]:Array (Nat × Operand)).map λ (i,x)=>(i,ρ x)))))=_;rw[show ((#[(0,a)]:Array (Nat × Operand)).map λ (i,x)=>(i,ρ x)) = #[(0,ρ a)] by simp]
theorem acY {w:World} {cs:List Value} (f:cs.length=19):(BSx 24 1 #[(0,.agg cs.toArray)]).run Tryz.prog w = .ok (cw (some ⟨w.heap.size,0,none⟩) 1 1) (w.alloc (.cells cs.toArray 59 (0,0))):=by
 obtain⟨l,k,r,s,p,q,m,t,o,n,j,c,e,h,d,a,i,b,g,rfl⟩:=Z8 f;kernel_rfl
attribute [local go_sem ↓] bs_item
theorem Qc {x:ItemD} (ar:∀ it∈x.items,aaw it):aaw x:=by
 intro w B p hE hB WA;have cl:=Uj x.items;rw[Uh] at WA;have bE:=qh (show ∀ it∈x.items,aaw it/\it.cu<=1048576 from λ it h=>⟨ar it h,by have:=Ui h;omega⟩);cases hE;rename_i A1 c1 A2 c2 A3 c3 A4 c4 A5 c5 B1 b1 B2 b2 B3 b3 cs h1 h2 h4 d ha l1 l3 l4 l5 l6 l7 l8 hr hi;obtain⟨W1,a1,bh,K1⟩:=box w 59 (Ce x A1 c1 A2 c2 A3 c3 A4 c4 B1 b1 B2 b2 B3 b3 A5 c5);obtain⟨W2,a6,a5,K2⟩:=box W1 59 #[cr ct 0,cv ⟨#[]⟩,cw none 0 0,cw none 0 0,cw none 0 0,cz false,cw none 0 0,cv ⟨#[]⟩,cr ct 0,cr ct 0,cr ct 0,cr ct 0,cv ⟨#[]⟩,cw none 0 0,cz false,cw none 0 0,cz false,cw none 0 0,cw none 0 0];have hz:W1.heap.size=w.heap.size+1:=by rw[a1];simp
 rw[hz] at K2;have ce:W2.heap.size=w.heap.size+2:=by rw[a6];simp[hz]
 obtain⟨p,a4⟩:∃ p:List Value,[cr ct x.k,cv x.nm,cw A1 x.iff.length c1,cw A2 x.ph.length c2,cw A3 x.items.length c3,cz x.sh,cw A4 x.cnt.length c4,cv x.over,cr ct x.ans.k,cr ct x.ans.lo,cr ct x.ans.hi,cr ct x.ans.pl,cv x.ans.ls,cw B1 x.ans.only.length b1,cz x.ans.sh,cw B2 x.ans.rs.length b2,cz x.ans.need,cw B3 x.ans.ch.length b3,cw A5 x.cmp.length c5]=p:=⟨_,rfl⟩;have hR:R1 w W2 x p none none:=⟨bh.trans (a5.mono (by omega)),by omega,a4▸(K1.below a5 K1.lt),K2,(λ _ e=>by cases e),(λ _ e=>by cases e)⟩;have F:=qh (show p.length=19/\(∀ v∈p,v.oneCell'=true)/\p[2]?=some (cw A1 x.iff.length c1)/\p[6]?=some (cw A4 x.cnt.length c4)/\p[18]?=some (cw A5 x.cmp.length c5)/\p[3]?=some (cw A2 x.ph.length c2)/\p[4]?=some (cw A3 x.items.length c3)/\(p.drop 8).take 10 = [cr ct x.ans.k,cr ct x.ans.lo,cr ct x.ans.hi,cr ct x.ans.pl,cv x.ans.ls,cw B1 x.ans.only.length b1,cz x.ans.sh,cw B2 x.ans.rs.length b2,cz x.ans.need,cw B3 x.ans.ch.length b3] by
  subst a4;exact⟨rfl,by simp[cF],rfl,rfl,rfl,rfl,rfl,rfl⟩)
 have KA:=qh (show ∀ cur o1 o3,R1 w cur x p o1 o3->Calls Tryz.prog 79 #[cw A1 x.iff.length c1] cur λ y w'=>∃ A' c',y = cA (cw A' x.iff.length c')/\R1 w w' x p (some (cw A' x.iff.length c')) o3 from λ cur o1 o3 h=>(R1.call h1 hB (by omega) h).mono λ _ _ ⟨A',c',e,hv,h'⟩=>⟨A',c',e,h'.amo hv⟩);have KB:=qh (show ∀ cur o1 o3,R1 w cur x p o1 o3->Calls Tryz.prog 79 #[cw A4 x.cnt.length c4] cur λ y w'=>∃ A' c',y = cA (cw A' x.cnt.length c')/\R1 w w' x p o1 o3 from λ cur o1 o3 h=>(R1.call h4 hB (by omega) h).mono λ _ _ ⟨A',c',e,hv,h'⟩=>⟨A',c',e,h'⟩);have KC:=qh (show ∀ cur o1 o3,R1 w cur x p o1 o3->Calls Tryz.prog 79 #[cw A5 x.cmp.length c5] cur λ y w'=>∃ A' c',y = cA (cw A' x.cmp.length c')/\R1 w w' x p o1 (some (cw A' x.cmp.length c')) from λ cur o1 o3 h=>(R1.call d hB (by omega) h).mono λ _ _ ⟨A',c',e,hv,h'⟩=>⟨A',c',e,h'.amq hv⟩);have SQ:=qh (cB h2 (cB ha (cB hr (cB hi (cB l8 l3)))));clear h1 h2 h4 d ha l1 l3 l4 l5 l6 l7 l8 hr hi bh a5 K1 K2 ar a4;obtain⟨f2,f6,aD,p2,p6,U⟩:=hR.cells;rw[F.o.2.2.1] at p2;rw[F.o.2.2.2.1] at p6;rw[F.o.2.2.2.2.1] at U;have O:=qh hR;clear hR;change Calls _ _ #[.agg (Ce x A1 c1 A2 c2 A3 c3 A4 c4 B1 b1 B2 b2 B3 b3 A5 c5)] _ _;go_enter Tryz.func37,Tryz.ntmps37;go_upto_region 1 with (fail);rw[<- a1,<- a6];clear a1 a6 hz;go_cut [] from 10 to 21 (λ wd=>Hid (R3 w wd x (cw A2 x.ph.length c2) (cw A3 x.items.length c3) [cr ct x.ans.k,cr ct x.ans.lo,cr ct x.ans.hi,cr ct x.ans.pl,cv x.ans.ls,cw B1 x.ans.only.length b1,cz x.ans.sh,cw B2 x.ans.rs.length b2,cz x.ans.need,cw B3 x.ans.ch.length b3]))
 case first =>
  go_region_with (go_at_call 79;(first
   | (with_reducible refine (KA.o _ _ _ O.o).mono ?_)
   | (with_reducible refine (KB.o _ _ _ O.o).mono ?_)
   | (with_reducible refine (KC.o _ _ _ O.o).mono ?_)
   | (with_reducible refine (KA.o _ _ _ O.o.drew).mono ?_)
   | (with_reducible refine (KB.o _ _ _ O.o.drew).mono ?_)
   | (with_reducible refine (KC.o _ _ _ O.o.drew).mono ?_));rintro e9 Q ⟨A9,c9,rfl,L⟩;clear f2 f6 aD p2 p6 U O;have O:=qh L;obtain⟨f2,f6,aD,p2,p6,U⟩:=L.cells;rw[F.o.2.2.1] at p2;rw[F.o.2.2.2.1] at p6;rw[F.o.2.2.2.2.1] at U;clear L)
  all_goals
   (try go_wp2_with fail)
   go_meet
   exact qh ⟨_,O.o.end_ F.o.1 F.o.2.1 rfl,((Il F.o.1 _ _ _).1).trans F.o.2.2.2.2.2.1,((Il F.o.1 _ _ _).2.1).trans F.o.2.2.2.2.2.2.1,((Il F.o.1 _ _ _).2.2).trans F.o.2.2.2.2.2.2.2⟩
 case rest =>
 obtain⟨I,rfl⟩:=aC (wc);obtain⟨al,be,k3,k4,k8⟩:=hcut.o;obtain⟨R,S,e1,e3,hR⟩:=be.go;clear F KA KB KC f2 f6 aD p2 p6 U O hcut be;have bn:=qh (cB e1 e3);have aw:∀ (cur:World) (cj:List Value),R4 w I cur R S cj->Below B w cur:=λ _ _ h=>h.bel.mono hB;have KP:=qh (Ug x.ph A2 c2 B I (SQ.o.1.1.below (aw _ _ hR)) (by omega));obtain⟨p3,q3⟩:=hR.cell k3;have aM:=hR.h19;have O:=qh hR;have HB:=qh aw;clear hR e1 e3 aw;generalize (Value.agg (Ce x A1 c1 A2 c2 A3 c3 A4 c4 B1 b1 B2 b2 B3 b3 A5 c5))=T0;go_upto_region 3 with (go_at_call 61;(with_reducible refine KP.o.mono ?_);rintro e9 Q ⟨⟨A9,n9,c9,rfl⟩,eP⟩;have a3:=O.o.later eP;clear p3 q3;obtain⟨p3,q3⟩:=a3.cell k3;have ao:=qh a3;clear a3);obtain⟨W5,zk,aE⟩:∃ W,W=Q.setCell ⟨w.heap.size,3,none⟩ (cw A9 n9 c9)/\Hid (R4 w I W R S (al.set 3 (cw A9 n9 c9))):=⟨_,rfl,qh (ao.o.set 3 (by decide) (by decide) rfl)⟩;rw[<- zk];clear zk p3 q3 ao eP O KP;have ac:=qh (show (al.set 3 (cw A9 n9 c9))[4]?=some (cw A3 x.items.length c3)/\((al.set 3 (cw A9 n9 c9)).drop 8).take 10 = [cr ct x.ans.k,cr ct x.ans.lo,cr ct x.ans.hi,cr ct x.ans.pl,cv x.ans.ls,cw B1 x.ans.only.length b1,cz x.ans.sh,cw B2 x.ans.rs.length b2,cz x.ans.need,cw B3 x.ans.ch.length b3] from ⟨(Qb aM _).1.trans k4,(Qb aM _).2.trans k8⟩);obtain⟨o,bc⟩:=af (al.set 3 (cw A9 n9 c9));rw[bc] at aE ac;clear bc k3 k4 k8 aM;have XE:=aE.o;have p8:(Df 57 (cx (some ⟨w.heap.size,8,none⟩))).run Tryz.prog W5 = .ok (.agg (CS x.ans B1 b1 B2 b2 B3 b3)) W5:=yl (cs:=[cr ct x.ans.k,cr ct x.ans.lo,cr ct x.ans.hi,cr ct x.ans.pl,cv x.ans.ls,cw B1 x.ans.only.length b1,cz x.ans.sh,cw B2 x.ans.rs.length b2,cz x.ans.need,cw B3 x.ans.ch.length b3]) rfl (xx (k:=8) XE.b1 (λ j u hu=>by
  have n:=ac.o.2;rw[<- n] at hu;rw[List.getElem?_take] at hu;split at hu
  .rw[cO] at hu;simpa using hu
  .cases hu))
 have D:=Ud (w:=W5) (cs:=[cr ct x.ans.k,cr ct x.ans.lo,cr ct x.ans.hi,cr ct x.ans.pl,cv x.ans.ls,cw B1 x.ans.only.length b1,cz x.ans.sh,cw B2 x.ans.rs.length b2,cz x.ans.need,cw B3 x.ans.ch.length b3]) rfl (by simp[cF]);obtain⟨W6,yC,bs,B6⟩:=box W5 57 (CS x.ans B1 b1 B2 b2 B3 b3);rw[<- yC] at D;clear yC;have H:=qh (XE.later bs);have bB:I.heap.size<=W5.heap.size:=XE.stay.1;have b4:=B6.lt;have bD:=XE.le;have MX:=qh B6;clear XE aE bs;go_upto_region 4 with (fail);clear p8 D;have d:R5 w I R S o W5.heap.size [cr ct x.ans.k,cr ct x.ans.lo,cr ct x.ans.hi,cr ct x.ans.pl,cv x.ans.ls,cw B1 x.ans.only.length b1,cz x.ans.sh,cw B2 x.ans.rs.length b2,cz x.ans.need,cw B3 x.ans.ch.length b3] W6:=⟨H.o,MX.o,bB,rfl,by simp[cF]⟩;clear H MX bD b4;have KO:=qh (show ∀ cur,R5 w I R S o W5.heap.size [cr ct x.ans.k,cr ct x.ans.lo,cr ct x.ans.hi,cr ct x.ans.pl,cv x.ans.ls,cw B1 x.ans.only.length b1,cz x.ans.sh,cw B2 x.ans.rs.length b2,cz x.ans.need,cw B3 x.ans.ch.length b3] cur->Calls Tryz.prog 79 #[cw B1 x.ans.only.length b1] cur λ y w'=>∃ A' n' c',y = cA (cw A' n' c')/\R5 w I R S o W5.heap.size [cr ct x.ans.k,cr ct x.ans.lo,cr ct x.ans.hi,cr ct x.ans.pl,cv x.ans.ls,cw B1 x.ans.only.length b1,cz x.ans.sh,cw B2 x.ans.rs.length b2,cz x.ans.need,cw B3 x.ans.ch.length b3] w' from λ cur h=>by
  have s:=HB.o _ _ h.1;have hs:=h.1.size;refine (Eh x.ans.only cur B B1 b1 (SQ.o.2.1.h1.keep (λ _ _ q=>q.keep s) s) (by omega) (by have:=WA;unfold rG.cu at this;omega)).mono λ y w' hq=>?_;obtain⟨⟨A',c',he,-⟩,E⟩:=hq;exact⟨A',_,c',he,h.later E⟩)
 have KQ:=qh (show ∀ cur,R5 w I R S o W5.heap.size [cr ct x.ans.k,cr ct x.ans.lo,cr ct x.ans.hi,cr ct x.ans.pl,cv x.ans.ls,cw B1 x.ans.only.length b1,cz x.ans.sh,cw B2 x.ans.rs.length b2,cz x.ans.need,cw B3 x.ans.ch.length b3] cur->Calls Tryz.prog 80 #[cw B2 x.ans.rs.length b2] cur λ y w'=>∃ A' n' c',y = cA (cw A' n' c')/\R5 w I R S o W5.heap.size [cr ct x.ans.k,cr ct x.ans.lo,cr ct x.ans.hi,cr ct x.ans.pl,cv x.ans.ls,cw B1 x.ans.only.length b1,cz x.ans.sh,cw B2 x.ans.rs.length b2,cz x.ans.need,cw B3 x.ans.ch.length b3] w' from λ cur h=>by
  have s:=HB.o _ _ h.1;refine (Ue x.ans.rs B2 b2 B cur (SQ.o.2.1.h2.below s) (by have:=WA;unfold rG.cu at this;omega)).mono λ y w' hq=>?_;obtain⟨v,he,ho,E⟩:=hq;obtain⟨A',c',rfl⟩:=iU ho;exact⟨A',_,c',he,h.later E⟩)
 obtain⟨p5,f5⟩:=d.cell (i:=5) rfl;obtain⟨p7,f7⟩:=d.cell (i:=7) rfl;have m:=qh d;clear d;go_cut [] from 10 to 35 (λ wd=>Hid (∃ an,R5 w I R S o W5.heap.size an wd/\an[9]?=some (cw B3 x.ans.ch.length b3)))
 case first =>
  go_region_with ((first | go_at_call 79 | go_at_call 80);(first
   | (with_reducible refine (KO.o _ m.o).mono ?_)
   | (with_reducible refine (KQ.o _ m.o).mono ?_)
   | (with_reducible refine (KO.o _ m.o.drew).mono ?_)
   | (with_reducible refine (KQ.o _ m.o.drew).mono ?_));rintro e9 Q ⟨A9,n9,c9,rfl,L⟩;clear p5 f5 p7 f7 m;have m:=qh L;obtain⟨p5,f5⟩:=L.cell (i:=5) rfl;obtain⟨p7,f7⟩:=L.cell (i:=7) rfl;clear L)
  all_goals
   (try go_wp2_with fail)
   go_meet
   exact qh ⟨_,(m.o.set 5 rfl).set 7 rfl,rfl⟩
 case rest =>
 obtain⟨an,d,k9⟩:=hcut.o;clear KO KQ p5 f5 p7 f7 m hcut;obtain⟨p9,f9⟩:=d.cell k9;have m:=qh d;clear d;obtain⟨j0,cb,bK,bx,bL⟩:=info_parts aax;have a7:x.ans.ch.length<=1048576/\∀ r∈x.ans.ch,r.must.bl<=1048576/\r.ph.length<=1048576:=by
  have:=WA;unfold rG.cu at this;have h1:=Uk x.ans.ch;exact⟨by omega,λ r hr=>by have:=MN hr;omega⟩
 have bS:=qh a7.2;have a7:=a7.1;go_wp2;clear p9 f9 k9;go_loopw [39,4] (λ i v wr=>∃ k:Nat,i = cr ct k/\k<=x.ans.ch.length/\Hid (∃ xs,wr.ownsRow (W5.heap.size+1) 144 10 v k xs)/\Hid (R5 w I R S o W5.heap.size an wr)) (λ i _ _=>x.ans.ch.length+1 - (intOf i).toNat)
 case atStart=>exact⟨0,rfl,cC _,qh ⟨[],World.ownsRow_nil _ _ _ _⟩,m⟩
 case round =>
  obtain⟨k,rfl,hk,HO,m⟩:=hrel;obtain⟨xs,ho⟩:=HO.o;obtain⟨Ao,co,rfl⟩:=iU ho;have aq:=qh ho;clear ho HO;by_cases hlt:k<x.ans.ch.length
  case pos =>
   have s:=HB.o _ _ m.o.1;obtain⟨ae,rc,rfl,aR,⟨es,M,N,rfl,hE,Uc⟩,b⟩:=aB.at_ (aB.keep (λ _ _ h=>h.keep s) SQ.o.2.1.h3 s) hlt;have z:=qh (bS.o _ (cE hlt));obtain⟨a,ha⟩:=af (x.ans.ch[k]);rw[ha] at hE b Uc z;have aW:=qh hlt;obtain⟨e,he⟩:=af (a.must);rw[he] at hE z;have HE:=qh hE;obtain⟨-,-,-,-,-,-,-⟩:=hE;rename_i aa T Z V ck;obtain⟨ds,G⟩:∃ ds:List Value,[cr ct e.k,cr ct e.op,cv e.nm,cr ct e.v.k,cr ct e.v.n,cv e.v.s,cw aa e.v.l.length T,cw Z e.ar.length V,cz a.soft,cw M a.ph.length N]=ds:=⟨_,rfl⟩;have b:∀ j u,ds[j]?=some u->wr.cell? ((ae.add (k*10)).add j)=some u:=by subst G;exact b
   have IX:=PS (w:=wr) (ad:=ae.add (k*10)) (show ds.length=10 by subst G;rfl) b;have av:=PT (w:=wr) (show ds.length=10 by subst G;rfl) (by subst G;simp[cF]);obtain⟨W7,X,f,B7⟩:=box wr 144 ds.toArray;rw[<- X] at av;clear X;obtain⟨P,a8⟩:∃ P:World->Prop,P=λ cur=>R5 w I R S o W5.heap.size an cur/\IY wr cur:=⟨_,rfl⟩;have HP:=qh (show (∀ cur w',P cur->IY cur w'->P w')/\∀ cur,P cur->R5 w I R S o W5.heap.size an cur/\IY wr cur from by
    subst a8;exact⟨λ _ _ q s=>⟨q.1.later s,q.2.trans (s.mono q.2.size)⟩,λ _ q=>q⟩)
   have K:B<=wr.heap.size:=cD hB s.size;have ca:=qh (show qG wr B M N a.ph from Uc);have hS:S9 P (W5.heap.size+1) 144 10 (cw Ao k co) k xs wr.heap.size ds W7:=⟨a8▸⟨m.o.later f,f⟩,dm aq.o f,B7⟩;have cq:=qh G;have KX:=qh (show ∀ cur,S9 P (W5.heap.size+1) 144 10 (cw Ao k co) k xs wr.heap.size ds cur->Calls Tryz.prog 81 #[.agg (BC e aa T Z e.ar.length V)] cur λ y w'=>∃ A c A' c',y = cA (.agg (BC e A c A' e.ar.length c'))/\S9 P (W5.heap.size+1) 144 10 (cw Ao k co) k xs wr.heap.size ds w' from λ cur h=>by
    have hq:=HP.o.2 _ h.1;refine (Ik e cur B (ai e aa T Z V) (HE.o.keep (hq.2.mono K)) (cD K hq.2.size) z.o.1).mono λ y w' hq=>?_;obtain⟨⟨A,c,A',c',ay,-⟩,E⟩:=hq;exact⟨A,c,A',c',ay,h.later HP.o.1 E⟩)
   have KP:=qh (show ∀ cur,S9 P (W5.heap.size+1) 144 10 (cw Ao k co) k xs wr.heap.size ds cur->Calls Tryz.prog 61 #[cw M a.ph.length N] cur λ y w'=>∃ A' n' c',y = cA (cw A' n' c')/\S9 P (W5.heap.size+1) 144 10 (cw Ao k co) k xs wr.heap.size ds w' from λ cur h=>by
    refine (Ug a.ph M N B cur (ca.o.1.below ((HP.o.2 _ h.1).2.mono K)) z.o.2).mono λ y w' hq=>?_;obtain⟨⟨A',n',c',ay⟩,E⟩:=hq;exact⟨A',n',c',ay,h.later HP.o.1 E⟩)
   have C:=qh hS;clear b aR ha he s Uc f B7 hlt a8;go_upto_region 9 with (fail);clear IX av;have zs:∀ cur,ah cur wr.heap.size 144 ds.toArray->cur.cell? ⟨wr.heap.size,0,none⟩=some (cr ct e.k)/\cur.cell? ⟨wr.heap.size,1,none⟩=some (cr ct e.op)/\cur.cell? ⟨wr.heap.size,2,none⟩=some (cv e.nm)/\cur.cell? ⟨wr.heap.size,3,none⟩=some (cr ct e.v.k)/\cur.cell? ⟨wr.heap.size,4,none⟩=some (cr ct e.v.n)/\cur.cell? ⟨wr.heap.size,5,none⟩=some (cv e.v.s)/\cur.cell? ⟨wr.heap.size,6,none⟩=some (cw aa e.v.l.length T)/\cur.cell? ⟨wr.heap.size,7,none⟩=some (cw Z e.ar.length V)/\cur.cell? ⟨wr.heap.size,8,none⟩=some (cz a.soft)/\cur.cell? ⟨wr.heap.size,9,none⟩=some (cw M a.ph.length N):=λ cur h=>by
    subst G;exact⟨h.cell 0,h.cell 1,h.cell 2,h.cell 3,h.cell 4,h.cell 5,h.cell 6,h.cell 7,h.cell 8,h.cell 9⟩
   have HZ:=qh zs;have bw:∀ g,(Value.slice Ao k co).ownBlock=some g->W5.heap.size<g/\g<wr.heap.size:=λ g hg=>aq.o.lt g hg;clear zs G;obtain⟨z0,z1,z2,z3,z4,z5,z6,z7,z8,z9⟩:=HZ.o _ hS.2.2;clear hS;go_region_held3 (λ cur=>cur.cell? ⟨wr.heap.size,0,none⟩=some (cr ct e.k)/\cur.cell? ⟨wr.heap.size,1,none⟩=some (cr ct e.op)/\cur.cell? ⟨wr.heap.size,2,none⟩=some (cv e.nm)/\cur.cell? ⟨wr.heap.size,3,none⟩=some (cr ct e.v.k)/\cur.cell? ⟨wr.heap.size,4,none⟩=some (cr ct e.v.n)/\cur.cell? ⟨wr.heap.size,5,none⟩=some (cv e.v.s)/\cur.cell? ⟨wr.heap.size,6,none⟩=some (cw aa e.v.l.length T)/\cur.cell? ⟨wr.heap.size,7,none⟩=some (cw Z e.ar.length V)/\cur.cell? ⟨wr.heap.size,8,none⟩=some (cz a.soft)/\cur.cell? ⟨wr.heap.size,9,none⟩=some (cw M a.ph.length N))
    (first | exact HZ.o _ C.o.2.2 | exact HZ.o _ C.o.2.2.drew | exact HZ.o _ (C.o.2.2.alloc _) | exact HZ.o _ bg)
    (first
    | (go_at_call 81;(first | (with_reducible refine (KX.o _ C.o).mono ?_) | (with_reducible refine (KX.o _ (C.o.adJ HP.o.1)).mono ?_));rintro e9 Q ⟨A5,c5,A6,c6,rfl,L⟩;clear C;have C:=qh L;clear L)
    | (go_at_call 61;(first | (with_reducible refine (KP.o _ C.o).mono ?_) | (with_reducible refine (KP.o _ (C.o.adJ HP.o.1)).mono ?_));rintro e9 Q ⟨A7,n7,c7,rfl,L⟩;clear C;have C:=qh L;clear L)
    | (refine step_append_lies _ rfl _ _ 55 rfl (W5.heap.size+1) 144 j0 (.agg #[.int .i64 0,.int .i64 0,.string ⟨#[]⟩,.int .i64 0,.int .i64 0,.string ⟨#[]⟩,.slice none 0 0,.slice none 0 0,.bool false,.slice none 0 0]) 10 144 Tryz.underlying55 cb bK bx bL rfl (by decide) _ k xs rfl (C.o.2.1.alloc _) ⟨Q.heap.size,0,none⟩ 1 1 [.int .i64 e.k,.int .i64 e.op,.string e.nm,.int .i64 e.v.k,.int .i64 e.v.n,.string e.v.s,.slice A5 e.v.l.length c5,.slice A6 e.ar.length c6,.bool a.soft,.slice A7 n7 c7] rfl rfl (World.news_of_block (ah.new Q 144 _)) (by intro u hu;simp only[cH,List.not_mem_nil,or_false] at hu;rcases hu with rfl | rfl | rfl | rfl | rfl | rfl | rfl | rfl | rfl | rfl <;> rfl) (by decide) (by unfold maxLen;omega) (by omega) (by have:=(HP.o.2 _ C.o.1).1.2.1.lt;simp;omega) _ rfl ?_;intro g4 bQ w4 l J Dw ab;have bg:=(C.o.2.2.alloc (.cells #[.int .i64 e.k,.int .i64 e.op,.string e.nm,.int .i64 e.v.k,.int .i64 e.v.n,.string e.v.s,.slice A5 e.v.l.length c5,.slice A6 e.ar.length c6,.bool a.soft,.slice A7 n7 c7] 144 (0,0))).grown J (λ e=>by have:=bw _ e.symm;omega)))
   all_goals
    have a2:=qh (((HP.o.2 _ C.o.1).1.later (az Q _)).grown J (λ g hg=>(bw g hg).1));have Af:=qh l;clear l J Dw ab bg
    (try go_wp2_with fail)
    go_roundw
    case rel=>exact⟨k+1,by go_num,aW.o,qh ⟨_,Af.o⟩,a2⟩
    case measure =>
     have:=aW.o;simp[intOf];omega
  case neg =>
   obtain rfl:k=x.ans.ch.length:=by omega
   obtain⟨u9,bq⟩:∃ u,an[9]?=some u:=⟨_,cP (by rw[m.o.2.2.2.1];decide)⟩;obtain⟨p9,f9⟩:=m.o.cell bq;go_upto_region 12 with (fail);have d:=m.o.set 9 (v:=cw Ao x.ans.ch.length co) rfl;obtain⟨Xp,bd⟩:=aC (wr.setCell ⟨W5.heap.size,9,none⟩ (cw Ao x.ans.ch.length co));rw[<- bd] at d ⊢;clear bd p9 f9 bq;obtain⟨a9,bj⟩:=af (an.set 9 (cw Ao x.ans.ch.length co));rw[bj] at d;clear bj;have bt:(Df 57 (cx (some ⟨W5.heap.size,0,none⟩))).run Tryz.prog Xp = .ok (.agg a9.toArray) Xp:=yl d.2.2.2.1 (nI d.2.1);have D:(JB 57 (cx (some ⟨w.heap.size,8,none⟩)) (.agg a9.toArray)).run Tryz.prog Xp = .ok () (Xp.setCells w.heap.size 8 a9):=ML d.1.b1 (by rw[d.2.2.2.1];simp[d.1.h19]) (by rw[d.2.2.2.1];kernel_rfl) d.2.2.2.2;obtain⟨bv,h6,k6⟩:=d.1.mid d.2.2.2.1 d.2.2.2.2;obtain⟨Y,bk⟩:=aC (Xp.setCells w.heap.size 8 a9);rw[<- bk] at D h6;clear bk;have k6:=k6.trans ac.o.1;have H:=qh h6;clear d h6 ac m;go_upto_region 13 with (fail);clear bt D;obtain⟨p4,f4⟩:=H.o.cell k6;have ba:I.heap.size<=Y.heap.size:=H.o.stay.1;have cc:=H.o.le;obtain⟨i0,bA,bX,b9,bp⟩:=info_parts afZ;have cn:=SQ.o.2.2.2.2.1;have hit:x.items.length<=1048576:=by omega
   go_wp2;clear p4 f4;go_loopw [63,7] (λ i v wr=>∃ k:Nat,i = cr ct k/\k<=x.items.length/\Hid (∃ xs,wr.ownsRow Y.heap.size 59 19 v k xs)/\Hid (R4 w I wr R S bv)/\Y.heap.size<=wr.heap.size) (λ i _ _=>x.items.length+1 - (intOf i).toNat)
   case atStart=>exact⟨0,rfl,cC _,qh ⟨[],World.ownsRow_nil _ _ _ _⟩,H,cI _⟩
   case round =>
    obtain⟨k,rfl,hk,HO,m,ch⟩:=hrel;obtain⟨xs,ho⟩:=HO.o;obtain⟨ax,aL,rfl⟩:=iU ho;have aq:=qh ho;clear ho HO;by_cases hlt:k<x.items.length
    case pos =>
     have s:=HB.o _ _ m.o;have K:B<=wr.heap.size:=cD hB s.size;obtain⟨ae,rc,rfl,aR,am,b⟩:=aB.at_ (P:=gY) (aB.keep (λ _ _ h=>h.keep s) ⟨SQ.o.2.2.2.2.1,cs,SQ.o.2.2.1,SQ.o.2.2.2.1⟩ s) hlt;have z:=qh (bE.o _ (cE hlt));obtain⟨a,ha⟩:=af (x.items[k]);rw[ha] at am z;have aW:=qh hlt;obtain⟨ak,bl,-⟩:=am.look;have b6:=yN (w:=wr) ak b;have bm:=JC (w:=wr) ak bl;obtain⟨W7,X,f,B7⟩:=box wr 59 rc.toArray;rw[<- X] at bm;clear X;have bN:(Df 59 (cx (some ⟨wr.heap.size,0,none⟩))).run Tryz.prog W7 = .ok (.agg rc.toArray) W7:=yN ak (nI B7);have KI:=qh (z.o.1 W7 B rc (am.keep (f.mono K)) (cD K f.size) z.o.2);have b5:=qh (m.o.later f);have cp:=f.size;have bO:=qh (dm aq.o f);clear b aR ha am s f B7 hlt bl ak K;go_upto_region 17 with (fail);clear b6 bm;have br:=λ (w':World) (cs:List Value) (hn:cs.length=19)=>acY (w:=w') hn;go_wp2_with (first
      | (go_at_call 37;(with_reducible refine KI.o.mono ?_);rintro e9 Q ⟨⟨dd,rfl,bf,bR,-,-⟩,eP⟩;have cf:=br Q dd bf;have ao:=qh (b5.o.later eP);have cg:=eP.size;have bb:=qh (dm bO.o eP))
      | (at_builtin;refine wpList_append_lies _ rfl _ _ 24 rfl Y.heap.size 59 i0 (.agg #[.int .i64 0,.string ⟨#[]⟩,.slice none 0 0,.slice none 0 0,.slice none 0 0,.bool false,.slice none 0 0,.string ⟨#[]⟩,.int .i64 0,.int .i64 0,.int .i64 0,.int .i64 0,.string ⟨#[]⟩,.slice none 0 0,.bool false,.slice none 0 0,.bool false,.slice none 0 0,.slice none 0 0]) 19 304 Tryz.underlying24 bA bX b9 bp rfl (by decide) _ _ _ rfl (bb.o.alloc _) ⟨Q.heap.size,0,none⟩ 1 1 dd rfl (by rw[bf]) ?d1 bR (by decide) ?d3 ?d4 ?d5 _ rfl ?_))
     case d1=>exact nI (cs:=dd) (ah.new Q 59 _)
     case d3=>unfold maxLen;omega
     case d4=>omega
     case d5=>simp;omega
     intro g4 bQ w4 l J Dw ab;have a2:=qh ((ao.o.later (az Q _)).grown J (λ g hg=>cD ba (bb.o.lt g hg).1));have Af:=qh l;have b7:Y.heap.size<=w4.heap.size:=by have:=J.size;simp at this;omega
     clear l J Dw ab br bN
     (try go_wp2_with fail)
     go_roundw
     case rel=>exact⟨k+1,by go_num,aW.o,qh ⟨_,Af.o⟩,a2,b7⟩
     case measure =>
      have:=aW.o;simp[intOf];omega
    case neg =>
     obtain rfl:k=x.items.length:=by omega
     obtain⟨p4,f4⟩:=m.o.cell k6;go_upto_region 20 with (fail);have n:=m.o.set 4 (v:=cw ax x.items.length aL) (by decide) (by decide) rfl;obtain⟨W12,bi⟩:=aC (wr.setCell ⟨w.heap.size,4,none⟩ (cw ax x.items.length aL));rw[<- bi] at n ⊢;clear bi p4 f4 k6;obtain⟨t,bo⟩:=af (bv.set 4 (cw ax x.items.length aL));rw[bo] at n;clear bo;have bt:(Df 59 (cx (some ⟨w.heap.size,0,none⟩))).run Tryz.prog W12 = .ok (.agg t.toArray) W12:=yN n.h19 (nI n.b1);have D:(JB 59 (cx (some ⟨w.heap.size+1,0,none⟩)) (.agg t.toArray)).run Tryz.prog W12 = .ok () (W12.setCells (w.heap.size+1) 0 t):=ML n.b2 (by rw[n.h19];decide) (by rw[n.h19];kernel_rfl) n.h1c;have ap:=ah.mid (post:=[]) t [cr ct 0,cv ⟨#[]⟩,cw none 0 0,cw none 0 0,cw none 0 0,cz false,cw none 0 0,cv ⟨#[]⟩,cr ct 0,cr ct 0,cr ct 0,cr ct 0,cv ⟨#[]⟩,cw none 0 0,cz false,cw none 0 0,cz false,cw none 0 0,cw none 0 0] [] n.b2 (by rw[n.h19];rfl);rw[cJ,cK] at ap;have hS:=bz.many t 0 (bz.refl (w.heap.size+1) W12);obtain⟨b0,a0⟩:=aC (W12.setCells (w.heap.size+1) 0 t);rw[<- a0] at D hS;have ap:ah b0 (w.heap.size+1) 59 t.toArray:=a0▸ap;clear a0;have H8:=qh n;clear n;go_wp2;refine amn rfl rfl H8.o.h19 ap ?_;have n:=H8.o;exact⟨⟨t,rfl,n.h19,n.h1c,⟨_,n.e1,(n.exs bn.o.1).sets hS (by omega)⟩,⟨_,n.e3,(n.exs bn.o.2).sets hS (by omega)⟩⟩,n.bel.trans (hS.below (by omega))⟩
mutual
theorem Io:∀ x:ItemD,aaw x
 | .mk _ _ _ _ items _ _ _ _ _=>Qc (x:=.mk _ _ _ _ items _ _ _ _ _) (Ip items)
theorem Ip:∀ l:List ItemD,∀ e∈l,aaw e
 | [],_,h=>by cases h
 | a :: r,e,h=>by
  rcases cH.1 h with q | q
  .rw[q];exact Io a
  .exact Ip r e q
end
end Go.Proofs.YtcnagconagpkcaaGreatDoor
namespace Go.Proofs.YtcnagconagpkcaaGreatDoor
open Go.RowKit
attribute [local go_sem ↓] Go.wp_at_zero Go.wp_at_succ
attribute [local go_sem ↓] ld_item st_item
set_option maxHeartbeats 4000000
set_option maxRecDepth 100000
theorem BL.ok {f:bC} {x:nM} {e:Ending} {w':World} (i:eu f=0) (h:BL f x e w'):∃ B0 a d g b A c,e = cA (.tuple #[cx (some ⟨a,0,none⟩),cr ct 0])/\bF w' B0 a d g b {x with AN:=A,cn:=c} f (aK f) (ku f).2:=by
 rcases h with ⟨j,-⟩ | ⟨-,h⟩
 .exact absurd i j
 .exact h
def ac0 (f:bC) (d:aj) (e:Ending) (w':World):Prop:=∃ (co:List Value) (AL:Option Addr) (cl:Nat),e = cA (.tuple #[.agg co.toArray,cw AL d.lo.length cl,cr ct 0])/\co.length=19/\(∀ v∈co,v.oneCell'=true)/\(∃ v,co[2]?=some v/\mr 0 w' d.it.iff v)/\(∃ v,co[18]?=some v/\mr 0 w' d.it.cmp v)/\bV w' w'.heap.size AL d.lo/\d.lo.length<=cl
theorem mr.low {b:Nat} {w:World} {l:List Ex} {v:Value} (h:mr b w l v):mr 0 w l v:=by
 obtain⟨A,c,e,a⟩:=h;exact⟨A,c,e,a.imp λ k _ _=>cC _⟩
theorem aiW {c:Func} {s t u:Tmp} {tmps:Array Value} {w4:World} {g:Nat} {cs:List Value} {a b:Value} {Q:Ending->World->Prop} (f:c.results = #[.cell s 59,.tmp t,.tmp u]) (m:tmps[s]?.getD undef = cx (some ⟨g,0,none⟩)) (l:tmps[t]?.getD undef=a) (i:tmps[u]?.getD undef=b) (k:cs.length=19) (B:ah w4 g 59 cs.toArray) (h:Q (cA (.tuple #[.agg cs.toArray,a,b])) w4) :
  bodyPost Tryz.prog c Q Exit.ret { tmps:=tmps,defers:=[] } w4:=by
 have d:(loadVar 59 ⟨g,0,none⟩).run Tryz.prog w4 = .ok (.agg cs.toArray) w4:=run_loadVar_mid w4 g 0 59 cs _ (λ j v e=>by rw[Nat.zero_add,B.cell];simpa using e) Tryz.underlying59 rfl (by rw[k];kernel_rfl);exact bodyPost_ret (v:=.tuple #[.agg cs.toArray,a,b]) (by simp[results,f,m,l,i,d,Instr.loadAt,Sem.run_bind,Sem.run_pure,asAddr,Result.andThen_ok]) rfl h
theorem mr.ge {b a:Nat} {w:World} {l:List Ex} {v:Value} (h:mr a w l v) (g:b<=a):mr b w l v:=by
 obtain⟨A,c,e,d⟩:=h;exact⟨A,c,e,d.imp λ k f _=>cD g f⟩
structure F7 (w1 cur:World) (d:aj) (g:Nat) (o1:Option (List Value)) (o2:Option Value):Prop where
 bel:IY w1 cur
 blk:ah cur g 59 #[cr ct 0,cv ⟨#[]⟩,cw none 0 0,cw none 0 0,cw none 0 0,cz false,cw none 0 0,cv ⟨#[]⟩,cr ct 0,cr ct 0,cr ct 0,cr ct 0,cv ⟨#[]⟩,cw none 0 0,cz false,cw none 0 0,cz false,cw none 0 0,cw none 0 0]
 lt:g<w1.heap.size
 it:∀ co,o1=some co->co.length=19/\(∀ v∈co,v.oneCell'=true)/\(∃ v,co[2]?=some v/\mr w1.heap.size cur d.it.iff v)/\∃ v,co[18]?=some v/\mr w1.heap.size cur d.it.cmp v
 lo:∀ v,o2=some v->cur.ownsRow w1.heap.size 9 1 v d.lo.length (jq d.lo)
theorem F7.later {c a w':World} {d:aj} {g:Nat} {f:Option (List Value)} {o2:Option Value} (h:F7 c a d g f o2) (b:IY a w'):F7 c w' d g f o2:=by
 refine⟨h.bel.trans (b.mono h.bel.size),h.blk.below b h.blk.lt,h.lt,λ p e=>?_,λ v e=>dm (h.lo v e) b⟩;obtain⟨o,j,⟨v,k,n⟩,i,m,l⟩:=h.it p e;exact⟨o,j,⟨v,k,n.keep b⟩,i,m,l.keep b⟩
theorem F7.drew {b a:World} {d:aj} {g:Nat} {c:Option (List Value)} {o2:Option Value} (h:F7 b a d g c o2):F7 b a.drew d g c o2:=h.later (Below.refl _ _).drew
theorem F7.st {i a:World} {d:aj} {g:Nat} {f:Option (List Value)} {j:Option Value} (h:F7 i a d g f j) {b:List Value} (e:f=some b):(JB 59 (cx (some ⟨g,0,none⟩)) (.agg b.toArray)).run Tryz.prog a = .ok () (a.setCells g 0 b):=by
 obtain⟨c,k,-⟩:=h.it b e;exact ML h.blk (by rw[c];decide) (by rw[c];kernel_rfl) k
theorem F7.end_ {k a:World} {d:aj} {g:Nat} {b:List Value} {v:Value} (h:F7 k a d g (some b) (some v)):ah (a.setCells g 0 b) g 59 b.toArray/\∃ f cl,v = cw f d.lo.length cl/\bz g a (a.setCells g 0 b)/\b.length=19/\(∀ v∈b,v.oneCell'=true)/\(∃ v,b[2]?=some v/\mr 0 (a.setCells g 0 b) d.it.iff v)/\(∃ v,b[18]?=some v/\mr 0 (a.setCells g 0 b) d.it.cmp v)/\bV (a.setCells g 0 b) (a.setCells g 0 b).heap.size f d.lo/\d.lo.length<=cl:=by
 obtain⟨j,l,⟨u1,m,n⟩,u3,e3,o⟩:=h.it b rfl;have i:=h.lo v rfl;have c:=h.lt;obtain⟨f,cl,rfl⟩:=iU i;have e:bz g a (a.setCells g 0 b):=bz.many b 0 (bz.refl _ _);have B:=ah.mid (post:=[]) b [cr ct 0,cv ⟨#[]⟩,cw none 0 0,cw none 0 0,cw none 0 0,cz false,cw none 0 0,cv ⟨#[]⟩,cr ct 0,cr ct 0,cr ct 0,cr ct 0,cv ⟨#[]⟩,cw none 0 0,cz false,cw none 0 0,cz false,cw none 0 0,cw none 0 0] [] h.blk (by rw[j];rfl);rw[cJ,cK] at B;exact⟨B,f,cl,rfl,e,j,l,⟨u1,m,(n.sets e c).low⟩,⟨u3,e3,(o.sets e c).low⟩,Reads.ig (e.own i c),oZ i⟩
theorem aaz {w:World} {f:bC} {x:nM} (hf:mf w w.heap.size f x) (O:zT (aK f)) (r:Tab w) (L:Mx w) (h0:eu f=0) {s:ByteArray} (hs:s.size<=maxLen) {i:Nat} (hi:i<(aK f).length) (hn:jI (aK f) s=i) (WA:(aK f)[i].it.cu<=1048576) :
  Calls Tryz.prog 15 #[.agg (Bd f x),cv s] w λ e w'=>ac0 f (aK f)[i] e w'/\IY w w':=by
 obtain⟨W1,z,o,Y⟩:=box w 26 (Bd f x);obtain⟨W2,P,B,q⟩:=box W1 59 #[cr ct 0,cv ⟨#[]⟩,cw none 0 0,cw none 0 0,cw none 0 0,cz false,cw none 0 0,cv ⟨#[]⟩,cr ct 0,cr ct 0,cr ct 0,cr ct 0,cv ⟨#[]⟩,cw none 0 0,cz false,cw none 0 0,cz false,cw none 0 0,cw none 0 0];have E:=o.trans (B.mono o.size);have B1:=Y.below B Y.lt;obtain⟨q0,q1,q2,q3,q4⟩:=cB (B1.cell 0) (cB (B1.cell 1) (cB (B1.cell 2) (cB (B1.cell 3) (B1.cell 4))));have KC:=qh (J8 ((hf.keep E).up E.size) O (aA r E) (L.below E));have H0:=qh h0;have ab:W1.heap.size=w.heap.size+1:=by rw[z];simp
 rw[ab] at q;have H:=q.lt;have N:=qh q;have ak:=o.size;clear hf O r L B1 Y q h0 o B;go_enter Tryz.func15,Tryz.ntmps15;go_upto_region 1 with (fail);rw[<- z,<- P];clear z P;have gi:decide ((i:Int)<0)=false:=decide_eq_false (by omega);go_upto_region 7 with (first
  | (go_at_call 22;(with_reducible refine KC.o.mono ?_);rintro e1 m ⟨hr,uM⟩;obtain⟨B0,gb,m1,m2,m3,A,c,rfl,y⟩:=hr.ok H0.o;have HN:=qh (xq y s hs);have T:=qh y;have D:=qh uM;clear y uM hr q0 q1 q2 q3 q4)
  | (go_at_call 36;(with_reducible refine HN.o.mono ?_);rintro e2 w2 ⟨rfl,rfl⟩;rw[hn]))
 obtain⟨ad,A1,c1,A2,c2,A3,c3,A4,c4,A5,c5,B1,b1,B2,b2,B3,b3,V,cd,hA,Lr,hit,⟨t,WN⟩,U⟩:=T.o.pI hi;have hA:A=some ad:=hA;subst hA;have al:i<301:=cQ hi T.o.nodes.1;have ac:=T.o.cap;have Q:=T.o.le;obtain⟨d,hd⟩:=af ((aK f)[i]);rw[hd] at hit t U WN WA;obtain⟨ci,p⟩:∃ ci:List Value,[cr ct d.it.k,cv d.it.nm,cw A1 d.it.iff.length c1,cw A2 d.it.ph.length c2,cw A3 d.it.items.length c3,cz d.it.sh,cw A4 d.it.cnt.length c4,cv d.it.over,cr ct d.it.ans.k,cr ct d.it.ans.lo,cr ct d.it.ans.hi,cr ct d.it.ans.pl,cv d.it.ans.ls,cw B1 d.it.ans.only.length b1,cz d.it.ans.sh,cw B2 d.it.ans.rs.length b2,cz d.it.ans.need,cw B3 d.it.ans.ch.length b3,cw A5 d.it.cmp.length c5]=ci:=⟨_,rfl⟩;have aa:ci.length=19:=by subst p;rfl
 have hit:gY m B0 d.it ci:=p▸hit;have F:=qh (show ∀ a,IY m a->a.cell? ⟨gb,5,none⟩=some (cw (some ad) (aK f).length c)/\(Df 59 (cx (some (ad.add (i*23))))).run Tryz.prog a = .ok (.agg ci.toArray) a/\a.cell? ⟨(ad.add (i*23)).block,(ad.add (i*23)).off+22,none⟩=some (cw V d.lo.length cd) from λ a Z=>⟨Below.cell_of Z Lr,yN aa (λ j u hu=>Below.cell_of Z (U j u (by
  subst p;exact (List.getElem?_append_left (l₂:=[cr ct d.par,cr ct d.mZ,cr ct d.eQ,cw V d.lo.length cd]) (List.getElem?_eq_some_iff.1 hu).1).trans hu))),Below.cell_of Z (show m.cell? ⟨(ad.add (i*23)).block,(ad.add (i*23)).off+22,none⟩=_ from U 22 _ rfl)⟩)
 have K1:=qh (show ∀ a o2,F7 m a d (w.heap.size+1) none o2->Calls Tryz.prog 37 #[.agg ci.toArray] a λ J w'=>∃ C:List Value,J = cA (.agg C.toArray)/\F7 m w' d (w.heap.size+1) (some C) o2 from λ a o2 h=>(Io d.it a B0 ci (hit.keep (h.bel.mono Q)) (cD Q h.bel.size) WA).mono λ J w' hq=>by
  obtain⟨⟨C,e,W,S,⟨v,e1,X⟩,v',e3,R⟩,b⟩:=hq;have n:=h.later b;have ae:=h.bel.size;exact⟨C,e,n.bel,n.blk,n.lt,λ _ e=>by injection e with e;subst e;exact⟨W,S,⟨v,e1,X.ge (by omega)⟩,v',e3,R.ge (by omega)⟩,n.lo⟩)
 have K2:=qh (show ∀ a o1,F7 m a d (w.heap.size+1) o1 none->Calls Tryz.prog 38 #[cw V d.lo.length cd] a λ J w'=>∃ v,J = cA v/\F7 m w' d (w.heap.size+1) o1 (some v) from λ a o1 h=>(cloneS d.lo V cd _ a (t.1.below h.bel) (by omega)).mono λ J w' hq=>by
  obtain⟨v,e,ho,b⟩:=hq;have n:=h.later b;exact⟨v,e,n.bel,n.blk,n.lt,n.it,λ _ e=>by injection e with e;subst e;exact own_base ho h.bel.size⟩)
 have hT:F7 m m d (w.heap.size+1) none none:=⟨Below.refl _ _,N.o.below D.o N.o.lt,cQ H D.o.size,(λ _ e=>by cases e),(λ _ e=>by cases e)⟩;have l:=qh hT;have HD:=qh hd;obtain⟨K,G,k⟩:=F.o _ (Below.refl _ _);have I:=(F.o _ (Below.refl _ _).drew).2.1;have b:=E.trans (D.o.mono E.size);clear hT hd p hit t U Lr KC HN;go_region_with (first
   | (go_at_call 37;(first | (with_reducible refine (K1.o _ _ l.o).mono ?_) | (with_reducible refine (K1.o _ _ l.o.drew).mono ?_));rintro e9 w9 ⟨C,rfl,g⟩;clear l K G k I;have l:=qh g;obtain⟨K,G,k⟩:=F.o _ g.bel;have I:=(F.o _ g.bel.drew).2.1;have M:=g.st rfl;clear g)
   | (go_at_call 38;(first | (with_reducible refine (K2.o _ _ l.o).mono ?_) | (with_reducible refine (K2.o _ _ l.o.drew).mono ?_));rintro e9 w9 ⟨v9,rfl,g⟩;clear l K G k I;have l:=qh g;obtain⟨K,G,k⟩:=F.o _ g.bel;have I:=(F.o _ g.bel.drew).2.1;(first | (have M:=g.st rfl) | skip);clear g))
 all_goals
  obtain⟨B9,AL,cl,rfl,hS,W,S,X,R,k5⟩:=l.o.end_;have HE:=qh (cB X (cB R k5));have Dq:=qh (cB hS S);obtain⟨W9,iE⟩:=aC (w9.setCells (w.heap.size+1) 0 C);rw[<- iE] at B9 HE Dq ⊢;clear iE hS S X R k5 K G k I M
  (try go_wp2)
  refine aiW rfl rfl rfl rfl W B9 ?_;exact⟨by rw[HD.o];exact⟨C,AL,cl,rfl,W,Dq.o.2,HE.o⟩,(b.trans (l.o.bel.mono b.size)).trans (Dq.o.1.below (by omega))⟩
end Go.Proofs.YtcnagconagpkcaaGreatDoor
namespace Go.Proofs.YtcnagconagpkcaaGreatDoor
open Go.RowKit
attribute [local go_sem ↓] Go.wp_at_zero Go.wp_at_succ
set_option maxHeartbeats 4000000
set_option maxRecDepth 100000
theorem ac1 (v:Value) (w:World):LD 63 #[cw none 0 0,cw none 0 0,v] w (cz true):=by
 go_enter Tryz.func63,Tryz.ntmps63;go_wp2;go_loopw [17] (λ i wr=>i = cr ct 0/\wr=w) (λ _ _=>1)
 case atStart=>exact⟨rfl,rfl⟩
 case round =>
  obtain⟨rfl,rfl⟩:=hrel;go_wp2;go_ret;exact⟨rfl,rfl⟩
theorem ac2 (v:Value) (w:World):LD 65 #[cw none 0 0,cw none 0 0,v] w (cz true):=by
 go_enter Tryz.func65,Tryz.ntmps65;go_wp2;go_loopw [17] (λ i wr=>i = cr ct 0/\wr=w) (λ _ _=>1)
 case atStart=>exact⟨rfl,rfl⟩
 case round =>
  obtain⟨rfl,rfl⟩:=hrel;go_wp2;go_ret;exact⟨rfl,rfl⟩
theorem SC (w:World):IE 32 #[.agg #[cv ⟨#[]⟩,cr ct 0,cw none 0 0,cw none 0 0,cw none 0 0],.agg #[cv ⟨#[]⟩,cr ct 0,cw none 0 0,cw none 0 0,cw none 0 0]] w (cz true):=by
 have z:∀ w,IE 16 #[cw none 0 0,cw none 0 0] w (cz true):=λ w=>(jG none none 0 0 0 0 [] [] w (cC _) (cC _) Reads.none_ Reads.none_).mono λ _ _ ⟨h,y⟩=>⟨by simpa using h,y⟩;obtain⟨n,c,a,B1⟩:=box w 26 #[cv ⟨#[]⟩,cr ct 0,cw none 0 0,cw none 0 0,cw none 0 0];obtain⟨D,j,d,B2⟩:=box n 26 #[cv ⟨#[]⟩,cr ct 0,cw none 0 0,cw none 0 0,cw none 0 0];have x:n.heap.size=w.heap.size+1:=by rw[c];simp
 rw[x] at B2;have B1:=B1.below d B1.lt;have k:∀ b g,ah b g 26 #[cv ⟨#[]⟩,cr ct 0,cw none 0 0,cw none 0 0,cw none 0 0]->b.cell? ⟨g,0,none⟩=some (cv ⟨#[]⟩)/\b.cell? ⟨g,1,none⟩=some (cr ct 0)/\b.cell? ⟨g,2,none⟩=some (cw none 0 0)/\b.cell? ⟨g,3,none⟩=some (cw none 0 0)/\b.cell? ⟨g,4,none⟩=some (cw none 0 0):=λ b g h=>⟨h.cell 0,h.cell 1,h.cell 2,h.cell 3,h.cell 4⟩;have f:=qh (cB k (cB B1 B2));obtain⟨q,u,r,t,l⟩:=k _ _ B1;obtain⟨p,v,s,m,o⟩:=k _ _ B2;have i:=a.trans (d.mono a.size);clear B1 B2 a d k;go_enter Tryz.func32,Tryz.ntmps32;go_upto_region 1 with (fail);rw[<- c,<- j];clear c j;go_wp2_with (first
  | (go_at_call 16;(with_reducible refine (z _).mono ?_);rintro C B ⟨rfl,a⟩;clear q u r t l p v s m o;obtain⟨q,u,r,t,l⟩:=f.o.1 _ _ (f.o.2.1.below a f.o.2.1.lt);obtain⟨p,v,s,m,o⟩:=f.o.1 _ _ (f.o.2.2.below a f.o.2.2.lt))
  | (go_at_call 63;(with_reducible refine (ac1 _ _).mono ?_);rintro e3 A ⟨rfl,rfl⟩)
  | (go_at_call 65;(with_reducible refine (ac2 _ _).mono ?_);rintro e3 A ⟨rfl,rfl⟩))
 go_ret;exact⟨rfl,i.trans (a.mono i.size)⟩
theorem WB (w:World):IE 11 #[] w (cz true):=by
 go_enter Tryz.func11,Tryz.ntmps11;go_wp2_with (go_at_call 32;(refine (SC _).mono ?_);rintro c b ⟨rfl,a⟩);go_ret;exact⟨rfl,a⟩
set_option maxHeartbeats 4000000
set_option maxRecDepth 100000
theorem aaA (n:Nat) (p:n<=4194304) (w:World):Calls Tryz.prog 39 #[cw none 0 0,cr ct n] w λ e w'=>∃ v,e = cA v/\w'.ownsRow w.heap.size 67 8 v 0 []/\IY w w':=by
 obtain⟨l,h,j,d,c⟩:=info_parts Ij;have q:decide ((n:Int)<0)=false:=decide_eq_false (by omega);rcases cS n with b | b
 .subst b;go_enter Tryz.func39,Tryz.ntmps39;go_wp2;go_ret;exact⟨_,rfl,World.ownsRow_nil _ _ _ _,Below.refl _ _⟩
 .have o:decide ((0:Int)<n)=true:=decide_eq_true (by omega);have m:decide (0<n)=true:=decide_eq_true b;have k:=λ ty=>Lib.run_append_nil_zeros (P:=Tryz.prog) w 52 3 ty 67 l _ .i64 .i64 Tryz.underlying52 Tryz.underlying3 h j n b (by rw[d];decide) (by omega) (by rw[c];omega);have g:=grownCap_ge w n 0 67;have a:=grownCap_le_maxLen w n 0 67 (by unfold maxLen;omega);obtain⟨f,i⟩:=af (grownCap w n 0 67);rw[i] at k g a;go_enter Tryz.func39,Tryz.ntmps39;go_wp2_with (at_builtin;refine cL _ rfl _ _ _ _ rfl _ _ rfl rfl _ _ (k _) ?_);go_ret;refine⟨_,rfl,⟨rfl,.inr ⟨w.heap.size,f,_,rfl,cI _,ah.new w.drew _ _,cC _,a,?_,by simp⟩⟩,(az w _).drew⟩;rw[Array.size_append,size_zeroCells,size_zeroCells];show n*8+(f - n)*8=f*8;omega
theorem run_append_nothing {w:World} {A B:Option Addr} {n c d:Nat} (ty:TypeId) (h:n<=c):(Builtin.append_ #[52,52] ty #[cw A n c,cw B 0 d]).run Tryz.prog w = .ok (cw A n c) w:=by
 obtain⟨l,b,i,f,e⟩:=info_parts Ij;have g:∀ a:Addr,(loadCells a 0).run Tryz.prog w = .ok #[] w:=λ a=>run_loadCells_list (P:=Tryz.prog) w a [] (λ j v k=>by simp at k);cases A <;> cases B <;> simp[g,Builtin.append_,run_underlying Tryz.underlying52,run_underlying Tryz.underlying67,sizeOf,typeInfo,b,Builtin.lenOf,h,Builtin.firstCells,storeCells,Sem.run_bind,Sem.run_pure]
def Qd (w:World) (B:Nat) (l:List Ex) (cs:List Value):Prop:=∀ i (h:i<l.length),aZ w B l[i] ((cs.drop (i*8)).take 8)
theorem Qd.app {w:World} {B:Nat} {l m:List Ex} {cs ds:List Value} (a:Qd w B l cs) (f:cs.length=l.length*8) (b:Qd w B m ds):Qd w B (l ++ m) (cs ++ ds):=by
 intro i d;rw[cG] at d;by_cases hlt:i<l.length
 .rw[List.getElem_append_left hlt,List.drop_append_of_le_length (by omega),List.take_append_of_le_length (by rw[List.length_drop];omega)];exact a i hlt
 .have e:i*8=cs.length+(i - l.length)*8:=by omega
  rw[List.getElem_append_right (by omega),e,List.drop_append];have c:List.drop (cs.length+(i - l.length)*8) cs = []:=List.drop_eq_nil_of_le (by omega);rw[c,cJ,Nat.add_sub_cancel_left];exact b _ _
theorem aaB {w:World} {B:Nat} {e:Ex} {ds:List Value} (h:aZ w B e ds):∀ v∈ds,v.oneCell'=true:=by
 obtain⟨-,-,-,-,-,-,-⟩:=h;simp[ai,cF]
theorem Qd.one {w:World} {B:Nat} {l:List Ex} {cs:List Value} (h:Qd w B l cs) (d:cs.length=l.length*8):∀ u∈cs,u.oneCell'=true:=by
 intro u c;obtain⟨j,a,rfl⟩:=List.mem_iff_getElem.1 c;have b:j / 8<l.length:=by omega
 refine aaB (h _ b) _ ?_;rw[List.mem_iff_getElem?];refine⟨j % 8,?_⟩;rw[List.getElem?_take_of_lt (by omega),cO,show j / 8*8+j % 8=j by omega,cP a]
def WC (w:World) (B:Nat) (cur:World) (v:Value) (l:List Ex):Prop:=∃ cs,cur.ownsRow w.heap.size 67 8 v l.length cs/\Qd w B l cs
theorem Ul {w a:World} {B:Nat} {v:Value} {l m:List Ex} {A:Option Addr} (c:Nat) (h:WC w B a v l) (y:aB aZ 8 w B A m) (C:B<=w.heap.size) (b:IY w a) (L:l.length<=2097152) (J:m.length<=1048576) :
  ∃ f w',(Builtin.append_ #[52,52] 52 #[v,cw A m.length c]).run Tryz.prog a = .ok f w'/\WC w B w' f (l ++ m)/\IY w w':=by
 obtain⟨x,p,q,k,i⟩:=info_parts Ij;obtain⟨cs,d,r⟩:=h;obtain⟨H,ds,n,s⟩:=y;rcases cS m.length with o | o
 .obtain rfl:=List.eq_nil_of_length_eq_zero o;obtain⟨A',c',rfl⟩:=iU d;exact⟨_,a,run_append_nothing _ (oZ d),by rw[cK];exact⟨cs,d,r⟩,b⟩
 .obtain⟨ad,rfl,E,G⟩:=n.2 o;have I:=b.mono C;obtain⟨f,w',e,t,z,K,M⟩:=run_append_own_at (P:=Tryz.prog) a w.heap.size 52 52 67 x _ 8 112 Tryz.underlying52 p q k i rfl (by decide) v l.length cs d ad m.length c ds n.1 (λ j u D=>Below.cell_of b (G j u D)) (Qd.one s n.1) (by unfold maxLen;omega) (by omega) b.size;refine⟨f,w',e,⟨cs ++ ds,by rw[cG];exact t,r.app d.1 s⟩,b.grown z b.size λ g F=>(d.lt g F).1⟩
theorem SE {b d:List Ex} {C t:Option Addr} {H x g B:Nat} {w:World} (E:aB aZ 8 w B C b) (u:aB aZ 8 w B t d) (o:B<=w.heap.size) (S:b.length<=1048576) (J:d.length<=1048576) (z:w.cell? ⟨g,0,none⟩=some (cw C b.length H)) (I:w.cell? ⟨g,1,none⟩=some (cw t d.length x)) :
  Calls Tryz.prog 17 #[cw (some ⟨g,0,none⟩) 2 2] w λ e w'=>(∃ A c,e = cA (cw A (b ++ d).length c)/\aB aZ 8 w' w'.heap.size A (b ++ d))/\IY w w':=by
 obtain⟨V,T,U,M,K⟩:=info_parts Ij;obtain⟨G,r⟩:=aC (b.length+d.length);have y:=qh (cB E u);have F:=qh (cB z I);have W:decide ((b.length:Int)<0)=false:=decide_eq_false (by omega);have X:decide ((b.length:Int)+d.length<0)=false:=decide_eq_false (by omega);clear E u;go_enter Tryz.func17,Tryz.ntmps17;go_wp2;go_loopw [11,3] (λ i v wr=>wr=w/\((i = cr ct 0/\v = cr ct 0)\/(i = cr ct 1/\v = cr ct b.length)\/(i = cr ct 2/\v = cr ct (G:Nat)))) (λ i _ _=>3 - (intOf i).toNat)
 case atStart=>exact⟨rfl,.inl ⟨rfl,rfl⟩⟩
 case round =>
  obtain⟨rfl,p⟩:=hrel;rcases p with ⟨rfl,rfl⟩ | ⟨rfl,rfl⟩ | ⟨rfl,rfl⟩
  .go_wp2;go_roundw
   case rel=>exact⟨trivial,.inr (.inl ⟨by go_num,by go_num⟩)⟩
   case measure=>simp[intOf]
  .go_wp2;go_roundw
   case rel=>exact⟨trivial,.inr (.inr ⟨by go_num,by go_num⟩)⟩
   case measure=>simp[intOf]
  .obtain⟨f,rfl⟩:=aC (wr);have N:=qh (aaA G (by omega) f);clear r;go_wp2_with (go_at_call 39;(with_reducible refine N.o.mono ?_);rintro e3 R ⟨v,rfl,n,D⟩;have Q:=qh (show WC f B R v [] from ⟨[],n,λ i h=>by cases h⟩);have O:=qh D;clear n D);go_loopw [27,6] (λ i v wr=>Hid (IY f wr)/\((i = cr ct 0/\Hid (WC f B wr v []))\/(i = cr ct 1/\Hid (WC f B wr v b))\/(i = cr ct 2/\Hid (WC f B wr v (b ++ d))))) (λ i _ _=>3 - (intOf i).toNat)
   case atStart=>exact⟨O,.inl ⟨rfl,Q⟩⟩
   case round =>
    obtain⟨j,p⟩:=hrel;have z:=Below.cell_of j.o F.o.1;have I:=Below.cell_of j.o F.o.2;rcases p with ⟨rfl,m⟩ | ⟨rfl,m⟩ | ⟨rfl,m⟩
    .obtain⟨L,w',q,k,a⟩:=Ul H m.o y.o.1 o j.o (by simp) S;have l:=qh (cB k a);clear k a;go_wp2_with (at_builtin;refine cL _ rfl _ _ _ _ rfl _ _ rfl rfl _ _ q ?_);go_roundw
     case rel=>exact⟨qh l.o.2,.inr (.inl ⟨by go_num,qh l.o.1⟩)⟩
     case measure=>simp[intOf]
    .obtain⟨L,w',q,k,a⟩:=Ul x m.o y.o.2 o j.o (by omega) J;have l:=qh (cB k a);clear k a;go_wp2_with (at_builtin;refine cL _ rfl _ _ _ _ rfl _ _ rfl rfl _ _ q ?_);go_roundw
     case rel=>exact⟨qh l.o.2,.inr (.inr ⟨by go_num,qh l.o.1⟩)⟩
     case measure=>simp[intOf]
    .go_wp2;go_ret;obtain⟨cs,n,k⟩:=m.o;obtain⟨A',c',rfl⟩:=iU n;have s:=j.o.mono o;exact⟨⟨A',c',rfl,by rw[cG];unfold maxLen;omega,cs,Reads.ig n,λ i P=>((k i P).keep s).up (cD o j.o.size)⟩,j.o⟩
end Go.Proofs.YtcnagconagpkcaaGreatDoor
namespace Go.Proofs.YtcnagconagpkcaaGreatDoor
open Go.RowKit
attribute [local go_sem ↓] Go.wp_at_zero Go.wp_at_succ
attribute [local go_sem ↓] ld_item st_item
set_option maxHeartbeats 4000000
set_option maxRecDepth 100000
mutual
theorem af2:∀ (g:ItemD) (a:List aj) (b f e:Int) (c:List ByteArray),(∀ d∈a,d.lo.length<=20)->(c.length:Int)<=e->e<=13->∀ d∈g.add a b f e c,d.lo.length<=20
 | .mk k nm iff ph items sh cnt over ans cmp,a,b,f,e,c,h,h1,h2=>by
  rw[ItemD.add];refine MO items _ _ _ _ _ (λ d i=>?_) (by split <;> (try simp) <;> omega);rcases cT.1 i with q | q
  .exact h d q
  .rw[List.mem_singleton] at q;subst q;show c.length<=20;omega
theorem MO:∀ (l:List ItemD) (a:List aj) (b f e:Int) (c:List ByteArray),(∀ d∈a,d.lo.length<=20)->(c.length:Int)<=e->∀ d∈kW l a b f e c,d.lo.length<=20
 | [],a,_,_,_,_,h,_=>by rw[kW];exact h
 | it :: r,a,b,f,e,c,h,h1=>by
  rw[kW];split
  .exact h
  .rename_i g;exact MO r _ _ _ _ _ (af2 it a b f e c h h1 (by omega)) h1
end
theorem aaC (f:bC):∀ d∈aK f,d.lo.length<=20:=MO f.items [] (-1) 0 1 [] (λ d h=>by cases h) (by simp)
theorem e3 {w:World} {p:Addr} {a b a2:Value} (h:∀ j u,[a,b,a2][j]?=some u->w.cell? (p.add j)=some u):w.cell? p=some a/\w.cell? ⟨p.block,p.off+1,none⟩=some b/\w.cell? ⟨p.block,p.off+2,none⟩=some a2:=⟨h 0 _ rfl,h 1 _ rfl,h 2 _ rfl⟩
theorem MM.lies {w:World} {p:Nat->Prop} {A:Option Addr} {l:List Ex} (h:MM w p A l) (c:l.length<=maxLen):aB aZ 8 w w.heap.size A l:=by
 obtain⟨cs,a,b⟩:=h;exact⟨c,cs,a.r,λ i d=>(b i d).at_⟩
mutual
theorem tK:∀ e:Ex,2*e.parts<=e.bl
 | .mk _ _ _ v ar=>by rw[Ex.parts,Ex.bl];have:=J9 ar;omega
theorem J9:∀ l:List Ex,2*aI l<=ER l
 | []=>cC _
 | a :: r=>by rw[aI,ER];have:=tK a;have:=J9 r;omega
end
theorem aaD {w:World} {B B':Nat} {d:aG} {cs:List Value} (h:lu w B d cs) (i:B<=B'):lu w B' d cs:=by
 obtain⟨⟨A,c,e,f,j⟩,a,b,g⟩:=h;exact⟨⟨A,c,e,f.more i,j⟩,a,b,g⟩
theorem aaE {w:World} {B B':Nat} {d:aQ} {cs:List Value} (h:lV w B d cs) (i:B<=B'):lV w B' d cs:=by
 obtain⟨⟨A,c,e,f,j⟩,a,b,g⟩:=h;exact⟨⟨A,c,e,f.more i,j⟩,a,b,g⟩
theorem QV {w:World} {f:bC} {x:nM} (hf:mf w w.heap.size f x) (be:zT (aK f)) (WA:∀ d∈aK f,d.it.cu<=1048576) (ao:Tab w) (a3:Mx w) (bk:Sp w) (a6:DK w) :
  IE 4 #[.agg (Bd f x)] w (cz true):=by
 obtain⟨W1,bb,T,rX⟩:=box w 26 (Bd f x);have HF:=qh (show ∀ b,IY W1 b->(b.cell? ⟨w.heap.size,0,none⟩=some (cv f.nm)/\b.cell? ⟨w.heap.size,1,none⟩=some (cr ct f.zW)/\b.cell? ⟨w.heap.size,2,none⟩=some (cw x.AL f.bD.length x.cl)/\b.cell? ⟨w.heap.size,3,none⟩=some (cw x.AS f.lists.length x.cs)/\b.cell? ⟨w.heap.size,4,none⟩=some (cw x.AI f.items.length x.ci))/\mf b b.heap.size f x/\Tab b/\Mx b/\Sp b/\DK b from λ b J=>by
  have y:=T.trans (J.mono T.size);have B:=rX.below J rX.lt;exact⟨⟨B.cell 0,B.cell 1,B.cell 2,B.cell 3,B.cell 4⟩,(hf.keep y).up y.size,aA ao y,a3.below y,aA bk y,aA a6 y⟩)
 have E:=qh (cB be WA);have N:=qh T;clear hf be WA ao a3 bk a6 rX T;obtain⟨⟨q0,q1,q2,q3,q4⟩,-⟩:=HF.o _ (Below.refl _ _);go_enter Tryz.func4,Tryz.ntmps4;go_upto_region 1 with (fail);rw[<- bb];clear bb;go_upto_region 3 with (go_at_call 11;(refine (WB _).mono ?_);rintro e1 w1 ⟨rfl,ha⟩;clear q0 q1 q2 q3 q4;obtain⟨⟨q0,q1,q2,q3,q4⟩,K,z,C,-⟩:=HF.o _ ha);have KB:=qh (Wx K E.o.1 z C);have HA:=qh ha;clear K z C ha;go_upto_region 4 with (go_at_call 12;(with_reducible refine KB.o.mono ?_);rintro e2 w2 ⟨hr,a0⟩;have HB:=qh (HA.o.trans (a0.mono HA.o.size));clear a0 q0 q1 q2 q3 q4;rcases hr with ⟨hc,rfl⟩ | ⟨hc,AC,cc,AN,cn,rfl,hC,hN,ax,aq⟩)
 .obtain⟨g0,bK⟩:=fU hc;obtain⟨⟨q0,q1,q2,q3,q4⟩,K,z,C,-⟩:=HF.o _ (HB.o.trans ((az w2 (.cells #[cw none 0 0,cw none 0 0,cw none 0 0,cw none 0 0] 45 (0,0))).mono HB.o.size));have KC:=qh (SA K E.o.1 z C);clear hc K z C KB;go_wp2_with (go_at_call 13;(refine KC.o.mono ?_);rintro e3 w3 ⟨rfl,j⟩);go_ret;exact⟨rfl,N.o.trans ((HB.o.trans (((az w2 _).trans (j.mono (az w2 _).size)).mono HB.o.size)).mono N.o.size)⟩
 .obtain⟨ar,aE⟩:=aan hc;have l:=aaC f;have W:∀ c∈(di (aK f) (ku f).2 (λ _=>true) (aK f).length),c.loops.length<=20:=λ c h=>by
   obtain⟨p,hp,-,-,-,rfl⟩:=oH (cI _) h;exact l _ (cE hp)
  have P:∀ d∈(bY (aK f)),d.loops.length<=1048576:=λ d h=>by
   obtain⟨p,hp,-,rfl⟩:=J6 h;exact cD (l _ (cE hp)) (by decide)
  obtain⟨a,o⟩:=af ((di (aK f) (ku f).2 (λ _=>true) (aK f).length));obtain⟨Y,Q⟩:=af ((bY (aK f)));rw[o] at W hC ax;rw[Q] at P hN aq;rw[o,Q] at ar aE;rw[o,Q];clear o Q KB;obtain⟨W3,bc,j,B3⟩:=box w2 45 #[cw AC a.length cc,cw AN Y.length cn,cw none 0 0,cw none 0 0];have r:=qh (HB.o.trans (j.mono HB.o.size));obtain⟨-,K,z,C,h4,h5⟩:=HF.o _ r.o;have KS:=qh (show Calls Tryz.prog 14 #[.agg #[cw AC a.length cc,cw AN Y.length cn,cw none 0 0,cw none 0 0]] W3 λ en w'=>en = cA (cr ct 0)/\IY W3 w' from ar▸FP a Y [] [] AC AN none none cc cn 0 0 w2.heap.size W3 (hC.keep j) (hN.keep j) ⟨cC _,[],Reads.none_,λ i h=>by cases h⟩ ⟨cC _,[],Reads.none_,λ i h=>by cases h⟩ (λ d h=>cD (W d h) (by decide)) P j.size h5);obtain⟨s0,-,s1,-,s2,-,s3,-⟩:=s4 B3;have s:=qh (cB (hC.keep j) (cB (hN.keep j) (cB j.size (cB ax (cB aq (cB W P))))));have bp:=qh aE;have HC:=qh hc;have bm:=(s.o.1).1;unfold maxLen at bm;have M:=qh B3;clear hC hN ax aq W P aE hc ar K z C h4 h5 j B3 l;rw[<- bc];clear bc;go_wp2_with (go_at_call 14;(with_reducible refine KS.o.mono ?_);rintro e4 w4 ⟨rfl,n⟩;clear s0 s1 s2 s3;obtain⟨s0,-,s1,-,s2,-,s3,-⟩:=s4 (M.o.below n M.o.lt);have ab:=qh n;clear n);clear s0 s1 s2 s3;go_loopw [32] (λ i wr=>∃ k:Nat,i = cr ct k/\k<=a.length/\Hid (IY W3 wr)) (λ i _=>a.length+1 - (intOf i).toNat)
  case atStart=>exact⟨0,rfl,cC _,ab⟩
  case round =>
   obtain⟨k,rfl,hk,HW⟩:=hrel;by_cases hlt:k<a.length
   case neg =>
    obtain rfl:k=a.length:=by omega
    go_wp2;go_ret;exact⟨rfl,N.o.trans ((r.o.trans (HW.o.mono r.o.size)).mono N.o.size)⟩
   have J:=HW.o;obtain⟨ad,ci,rfl,aw,rC,g⟩:=aB.at_ (aB.keep (λ _ _ h=>h.keep (J.mono s.o.2.2.1)) s.o.1 (J.mono s.o.2.2.1)) hlt;have aW:=qh hlt;obtain⟨i,hi,a4,am,a5⟩:=bp.o _ (cE hlt);have F:=s.o.2.2.2.2.2.1 _ (cE hlt);obtain⟨d,bq,an,u,O,a1⟩:∃ d:aG,lu wr w2.heap.size d ci/\jI (aK f) d.nm=(i:Int)/\d.loops=(aK f)[i].lo/\(∀ e∈(aK f)[i].it.iff ++ (aK f)[i].it.cmp,(Jy e a Y d.loops).2=0)/\d.loops.length<=20:=⟨_,rC,a4,am,a5,F⟩;clear rC a4 am a5 F;obtain⟨⟨Al,cl,rfl,I,ak⟩,K,z,C⟩:=bq;obtain⟨f0,f1,f2⟩:=e3 g;obtain⟨W4,uT,n,B4⟩:=box wr 51 #[cv d.nm,cr ct d.kind,cw Al d.loops.length cl];have jd:=J.trans (n.mono J.size);obtain⟨⟨q0,q1,q2,q3,q4⟩,y1,y2,y3,y4,-⟩:=HF.o _ (r.o.trans (jd.mono r.o.size));have KF:=qh (aaz y1 E.o.1 y2 y3 HC.o K hi an (E.o.2 _ (cE hi)));have p0:W4.cell? ⟨wr.heap.size,0,none⟩=some (cv d.nm):=B4.cell 0;have ab:=qh B4;have ng:=qh jd;have HD:=qh (cB I (cB ak (cB z (cB C (cB u (cB O a1))))));clear g aw I ak K z C y1 y2 y3 y4 u O an J B4 jd hlt;go_upto_region 11 with (fail);rw[<- uT];clear uT f0 f1 f2;go_upto_region 12 with (go_at_call 15;(with_reducible refine KF.o.mono ?_);rintro e5 U ⟨⟨co,AL,R,rfl,bo,a9,⟨v1,i1,x1⟩,⟨v3,i3,x3⟩,Z,H⟩,ac⟩;have ba:=JC (w:=U) bo a9;obtain⟨W6,yC,aa,B6⟩:=box U 59 co.toArray;rw[<- yC] at ba;clear yC;clear q0 q1 q2 q3 q4 p0);have bD:=ac.size;obtain⟨A1,n1,rfl,av⟩:=x1;obtain⟨A3,n3,rfl,ay⟩:=x3;have b2:W6.cell? ⟨U.heap.size,2,none⟩=some (cw A1 (aK f)[i].it.iff.length n1):=by rw[B6.cell];simpa using i1
   have V:W6.cell? ⟨U.heap.size,18,none⟩=some (cw A3 (aK f)[i].it.cmp.length n3):=by rw[B6.cell];simpa using i3
   have S:=ac.trans (aa.mono ac.size);have p2:W6.cell? ⟨wr.heap.size,2,none⟩=some (cw Al d.loops.length cl):=(ab.o.below S ab.o.lt).cell 2;obtain⟨nd,l⟩:=af ((aK f)[i]);have bl:nd∈aK f:=l▸cE hi;rw[l] at av ay b2 V Z H HD;rw[l];obtain⟨I,ak,z,C,u,O,bA⟩:=HD.o;have WA:=E.o.2 _ bl;rw[Uh] at WA;have bn:=ES nd.it.iff;have bw:=ES nd.it.cmp;have KE:=qh (show Calls Tryz.prog 16 #[cw AL nd.lo.length R,cw Al d.loops.length cl] W6 λ e w'=>e = cA (cz true)/\IY W6 w' from (jG AL Al R cl U.heap.size w2.heap.size nd.lo d.loops W6 (by unfold maxLen;rw[<- u];omega) (by unfold maxLen;omega) (Z.below aa) (I.below ((n.trans (S.mono n.size)).mono (by have:=HW.o.size;have:=s.o.2.2.1;omega)))).mono λ _ _ ⟨h,J⟩=>⟨by simpa [u] using h,J⟩);have HX:=qh (cB av ay);have WR:=qh (cB Z H);have MX:=qh (cB aa S);clear av ay ba a9 i1 i3 B6 Z H ac I ak z C u O l aa S;go_upto_region 14 with (go_at_call 16;(with_reducible refine KE.o.mono ?_);rintro e7 w7 ⟨rfl,v⟩;have b2:=Below.cell_of v b2;have V:=Below.cell_of v V);have aD:=MX.o.1;have bv:=v.size;have Z5:IY U w7:=aD.trans (v.mono aD.size);have a2:=az w7 (.cells #[cw A1 nd.it.iff.length n1,cw A3 nd.it.cmp.length n3] 52 (0,0));have WE:=Z5.trans (a2.mono Z5.size);have B8:=ah.new w7 52 #[cw A1 nd.it.iff.length n1,cw A3 nd.it.cmp.length n3];have WJ:=qh (tK);obtain⟨L,hL⟩:=af (nd.it.iff ++ nd.it.cmp);have KN:=qh (show Calls Tryz.prog 17 #[cw (some ⟨w7.heap.size,0,none⟩) 2 2] (w7.alloc (.cells #[cw A1 nd.it.iff.length n1,cw A3 nd.it.cmp.length n3] 52 (0,0))) λ e w'=>(∃ A c,e = cA (cw A L.length c)/\aB aZ 8 w' w'.heap.size A L)/\Below (w7.alloc (.cells #[cw A1 nd.it.iff.length n1,cw A3 nd.it.cmp.length n3] 52 (0,0))).heap.size (w7.alloc (.cells #[cw A1 nd.it.iff.length n1,cw A3 nd.it.cmp.length n3] 52 (0,0))) w' from hL▸SE (B:=U.heap.size) ((HX.o.1.lies (by unfold maxLen;omega)).keep (λ _ _ h=>h.keep WE) WE) ((HX.o.2.lies (by unfold maxLen;omega)).keep (λ _ _ h=>h.keep WE) WE) WE.size (by omega) (by omega) (B8.cell 0) (B8.cell 1));have bg:=qh (show L.length<=1048576/\∀ e∈L,e.parts<=1000000 from by
    rw[<- hL];refine⟨by rw[cG];omega,λ e he=>?_⟩;rcases cT.1 he with q | q
    .have:=BM q;have:=tK e;omega
    .have:=BM q;have:=tK e;omega)
   have bx:=qh (show ∀ e∈L,(jY e a Y nd.lo).2=0 from λ e he=>by
    have h:=HD.o.2.2.2.2.2.1 e (by rw[hL];exact he);rw[HD.o.2.2.2.2.1] at h;exact h)
   have bd:=qh (show IY W3 w7 from ng.o.trans ((MX.o.2.trans (v.mono MX.o.2.size)).mono ng.o.size));have bN:=bg.o.1;clear B8 a2 WE Z5 aD WA bn bw hL WJ p2;go_wp2_with (go_at_call 17;(with_reducible refine KN.o.mono ?_);rintro e9 w9 ⟨⟨AR,cR,rfl,hR⟩,eP⟩;have HR:=qh hR;have ap:=qh (bd.o.trans (((az w7 _).trans (eP.mono (az w7 _).size)).mono bd.o.size));have a7:=qh (MX.o.1.trans ((v.trans (((az w7 _).trans (eP.mono (az w7 _).size)).mono bv)).mono MX.o.1.size));clear hR eP);clear b2 V;go_loopw [60] (λ i wz=>∃ m:Nat,i = cr ct m/\m<=L.length/\Hid (IY w9 wz)) (λ i _=>L.length+1 - (intOf i).toNat)
   case atStart=>exact⟨0,rfl,cC _,qh (Below.refl _ _)⟩
   case round =>
    obtain⟨m,rfl,hm,HZ⟩:=hrel;have hz:=HZ.o;have G:=ap.o.trans (hz.mono ap.o.size);by_cases aaF:m<L.length
    case neg =>
     obtain rfl:m=L.length:=by omega
     have jB:=qh G;clear G hz;go_wp2;go_roundw
     case rel=>exact⟨k+1,by go_num,aW.o,jB⟩
     case measure =>
      have:=aW.o;simp[intOf];omega
    obtain⟨ae,ce,rfl,aw,bh,g⟩:=aB.at_ (aB.keep (λ _ _ h=>h.keep hz) HR.o hz) aaF;obtain⟨e,o,aL,bi⟩:∃ e:Ex,aZ wr w9.heap.size e ce/\e.parts<=1000000/\(jY e a Y nd.lo).2=0:=⟨_,bh,bg.o.2 _ (cE aaF),bx.o _ (cE aaF)⟩;have bf:=qh aaF;have br:=qh o;clear bh aaF;obtain⟨-,-,-,-,-,-,-⟩:=o;rename_i A5 c5 A6 c6 bB;obtain⟨f0,f1,f2,f3,f4,f5,f6,f7⟩:=e8 g;obtain⟨Xp,aM,Qu,bt⟩:=box wr 67 (BC e A5 c5 A6 e.ar.length c6);have al:=hz.trans (Qu.mono hz.size);have D:=G.trans (Qu.mono G.size);have bj:=qh al;obtain⟨-,-,-,-,y4,-⟩:=HF.o _ (r.o.trans (D.mono r.o.size));have X:w2.heap.size<=w9.heap.size:=cD s.o.2.2.1 ap.o.size;have a8:U.heap.size<=w9.heap.size:=a7.o.size;have KT:=qh (show Calls Tryz.prog 18 #[.agg (BC e A5 c5 A6 e.ar.length c6),cw (some ad) a.length cc,cw AN Y.length cn,cw AL nd.lo.length R] Xp λ en w'=>(∃ t,en = cA (.tuple #[cr ct t,cr ct 0]))/\IY Xp w' from
     (NU e a Y (some ad) AN cc cn w9.heap.size nd.lo AL R (ai e A5 c5 A6 c6) Xp (br.o.keep (Qu.mono hz.size)) (aB.QN (λ _ _ h=>aaD h X) (s.o.1.keep (D.mono s.o.2.2.1)) X) (aB.QN (λ _ _ h=>aaE h X) (s.o.2.1.keep (D.mono s.o.2.2.1)) X) (by unfold maxLen;rw[<- HD.o.2.2.2.2.1];omega) ((WR.o.1.below (a7.o.trans (al.mono a8))).more a8) WR.o.2 al.size aL s.o.2.2.2.2.2.2 s.o.2.2.2.1 s.o.2.2.2.2.1 y4).mono λ _ _ hq=>⟨⟨(jY e a Y nd.lo).1,hq.1.trans (by rw[bi])⟩,hq.2⟩)
    obtain⟨s0,-,s1,-,s2,-,s3,-⟩:=s4 (M.o.below D M.o.lt);clear g aw G hz al D y4 aL bi s2 s3;go_upto_region 17 with (fail);rw[<- aM];clear aM f0 f1 f2 f3 f4 f5 f6 f7;obtain⟨f0,f1,f2,f3,f4,f5,f6,f7⟩:=b8 bt;go_wp2_with (go_at_call 18;(with_reducible refine KT.o.mono ?_);rintro bE bL ⟨⟨t,rfl⟩,aR⟩;have bs:=qh (bj.o.trans (aR.mono bj.o.size));clear aR);go_roundw
    case rel=>exact⟨m+1,by go_num,bf.o,bs⟩
    case measure =>
     have:=bf.o;simp[intOf];omega
end Go.Proofs.YtcnagconagpkcaaGreatDoor
