/- Lemmas. -/
import Derived.Test.YtcnagconagpkcaaGreatDoorZ20
open Go.Value renaming int->bL, string->bO, slice->bP, pointer->bR, bool->bX
open Go.IntKind renaming i64->bN
open Go.Obj renaming cells->bS
open Go.Ending renaming returned->b0
open Nat renaming le_trans->b4, zero_le->b9, mul_le_mul_right->ct, le_refl->cx
open List renaming length_append->b5, getElem_mem->b7, length_cons->cc, mem_append_left->cg, mem_append_right->ck, take_length->cq, length_take->cr, take_succ_eq_append_getElem->cu, map_cons->cz, length_map->cA, append_nil->cB, mem_singleton->cC, append_assoc->cE, mem_map->cF, getElem?_eq_getElem->cG, map_append->cH, map_flatMap->cI, mem_cons_self->cJ, mem_cons_of_mem->cK, flatMap_cons->cL, mem_of_mem_take->cM, take_zero->cQ, flatMap_append->cR, mem_flatMap->cS, mem_cons->cT, getElem?_map->cU, getD_eq_getElem?_getD->cV
open Go.Lib renaming cut->b6, itoa->cf, itoa_length_le->cp, hasPrefix->cw
open Go.World renaming news_of_block->cv, ownsRow_nil->cN
open Go.World.ownsRow renaming alloc->cD
set_option maxHeartbeats 4000000
set_option maxRecDepth 100000
namespace Go.Proofs.YtcnagconagpkcaaGreatDoor
open Tryz
open Tryz renaming prog->lM
section
open Go.RowKit
attribute [local go_sem ↓] Go.wp_at_zero Go.wp_at_succ ld_item st_item ld_rule st_rule
theorem aaE (l:List UInt8):cw l [58]=decide (l.head?=some 58):=by
 cases l with
 | nil=>rfl
 | cons c r =>
  by_cases h:c=58
  .subst h;rfl
  .rw[decide_eq_false (by simpa using h)];simp only[cw,List.isPrefixOf,Bool.and_true];exact beq_eq_false_iff_ne.2 (λ e=>h e.symm)
theorem agw {L:List aS} {N:List au} {s:ByteArray} (h:s.data.toList.head?=some 58):findF L N s=opR (Dx (s.data.toList.drop 1) L):=by unfold findF;rw[if_pos h]
theorem adC {L:List aS} {N:List au} {s:ByteArray} (h:¬ s.data.toList.head?=some 58):findF L N s=if fA N ⟨(b6 s.data.toList [47]).1.toArray⟩<0 then ([],false)
  else if (b6 s.data.toList [47]).2.2=false then ((jY N (fA N ⟨(b6 s.data.toList [47]).1.toArray⟩)).it.ph,wZ (jY N (fA N ⟨(b6 s.data.toList [47]).1.toArray⟩)).it.k)
  else opR (BJ (b6 s.data.toList [47]).2.1 0 (jY N (fA N ⟨(b6 s.data.toList [47]).1.toArray⟩)).it.ans.ch):=by unfold findF;rw[if_neg h]
theorem Jn {w:World} {B0 gb m1 m2 m3:Nat} {x:jS} {f:aI} {N:List au} {K:aY} (h:aT w B0 gb m1 m2 m3 x f N K) (aa:adz f) (ab:∀ d∈N,d.it.ans.ch.length<=1000) {s:ByteArray} (hs:s.size<=2000000) (y:Tab w) (U:Mx w) :
  Calls lM 24 #[bR (some ⟨gb,0,none⟩),bO s] w λ e w'=>TZ B0 (findF f.lists N s) e w'/\DD w w':=by
 obtain⟨W0,O,m,BS⟩:=box w 85 #[bP none 0 0,bL bN 0];have KP:=qh (Tryz.strings_HasPrefix s ⟨#[58]⟩ W0);have hp:cw s.data.toList (⟨#[58]⟩:ByteArray).data.toList=decide (s.data.toList.head?=some 58):=aaE _;rw[hp] at KP;have h0:=h.keep m;have M:=h.le;have bj:=m.size;by_cases O9:s.data.toList.head?=some 58
 .rw[decide_eq_true O9] at KP;have V:=qh (agw (L:=f.lists) (N:=N) O9);have h1:1<=s.size:=by
   rw[<- aN];cases hq:s.data.toList with
   | nil=>rw[hq] at O9;cases O9
   | cons _ _=>simp
  have KO:=Pn h0 aa h1 hs (aB y m) (U.below m);obtain⟨r,hr⟩:=af (opR (Dx (s.data.toList.drop 1) f.lists));rw[hr] at KO V;have KO:=qh KO;clear hr;have TF:=qh BS;clear h h0 aa ab hs y U hp O9 BS;go_enter func24,ntmps24;go_upto_region 1 with (fail);rw[<- O];clear O;go_upto_region 2 with (go_at_call 58;(with_reducible refine KP.o.mono ?_);rintro e1 w1 ⟨rfl,rfl⟩);go_wp2_with (go_at_call 59;(with_reducible refine KO.o.mono ?_);rintro e1 w1 ⟨⟨A,c,n,rfl,oO⟩,q⟩;have B1:=TF.o.below q TF.o.lt;have z0:=B1.cell 0;have z1:=B1.cell 1;have y0:=B1.frozen 0;have y1:=B1.frozen 1;have B:=qh B1;have gK:=m.trans (q.mono m.size);have HP:=qh oO;clear oO);refine Gu rfl rfl rfl B.o gK λ w' o g=>⟨?_,o⟩;rw[V.o];exact⟨A,c,n,rfl,xe HP.o λ k hk=>g k (by omega)⟩
 rw[decide_eq_false O9] at KP;have p:=qh (adC (L:=f.lists) (N:=N) O9);obtain⟨RR,aq⟩:=af (findF f.lists N s);rw[aq] at p ⊢;have KC:=qh (Pm s W0 hs (U.below m));obtain⟨fl,ap⟩:=af ((b6 s.data.toList [47]).2.2);obtain⟨ca,Y⟩:=af ((b6 s.data.toList [47]).1);obtain⟨cb,ay⟩:=af ((b6 s.data.toList [47]).2.1);have aM:ca.length<=s.size:=by
  rw[<- Y,<- aN];rcases BL s.data.toList with ⟨a,b,-,e,hc⟩ | ⟨-,hc⟩
  .rw[hc,e];simp
  .rw[hc];exact cx _
 rw[ap,Y,ay] at KC p;have MV:=qh aM;have H0:=qh h0;have Zl:=qh ab;have HT:=qh (aB y m);have TF:=qh BS;clear h h0 aa ab y U hp O9 BS aq ap Y ay aM;go_enter func24,ntmps24;go_upto_region 1 with (fail);rw[<- O];clear O;go_upto_region 4 with (first
  | (go_at_call 58;(with_reducible refine KP.o.mono ?_);rintro e1 w1 ⟨rfl,rfl⟩)
  | (go_at_call 60;(with_reducible refine KC.o.mono ?_);rintro e1 w1 ⟨⟨a,b,rfl,ha,hb⟩,q⟩;have ak:=H0.o.keep q))
 have G:=m.trans (q.mono m.size);have ea:(⟨ca.toArray⟩:ByteArray)=a:=qU (by simp[ha]);rw[ea] at p;have qY:=qh hb;have B1:=TF.o.below q TF.o.lt;have be:a.size<=maxLen:=by
  have:=MV.o;rw[<- aN,ha];unfold maxLen;omega
 have KN:=qh (uZ ak a be);have z0:=B1.cell 0;have z1:=B1.cell 1;have y0:=B1.frozen 0;have y1:=B1.frozen 1;have B:=qh B1;have DN:=qh ak;have aZ:=qh (aB HT.o q);clear B1 ak ea ha hb KP KC MV HT H0 TF;by_cases hn0:fA N a<0
 .have V:=qh (p.o.trans (if_pos hn0));obtain⟨n0,hn⟩:=af (fA N a);rw[hn] at KN hn0;clear hn p;go_wp2_with (go_at_call 36;(with_reducible refine KN.o.mono ?_);rintro e2 w2 ⟨rfl,rfl⟩);refine Gu rfl rfl rfl B.o G λ w' o g=>⟨?_,o⟩;rw[V.o];exact⟨none,0,0,rfl,KZ _ _⟩
 obtain⟨i,hi,am⟩:=wJ hn0;have p:=qh (p.o.trans (if_neg hn0));rw[hi] at p KN;rw[iD am] at p;have tq:=DN.o.nodes.1;have bh:=DN.o.cap;have gi:decide ((i:Int)<0)=false:=decide_eq_false (by omega);obtain⟨ad,A1,c1,A2,c2,A3,c3,A4,c4,A5,c5,B1,b1,B2,b2,B3,b3,W,cs,cX,a8,ba,E,BW,C,hit⟩:=DN.o.itm am;obtain⟨d,hd⟩:=af (N[i]);have a1:=Zl.o _ (b7 am);rw[hd] at p C hit a1;have q0:W.cell? ⟨w1.heap.size,0,none⟩=some (bL bN d.it.k):=by rw[BW.cell,<- C];rfl
 have q3:W.cell? ⟨w1.heap.size,3,none⟩=some (bP A2 d.it.ph.length c2):=by rw[BW.cell,<- C];rfl
 have a5:W.cell? ⟨w1.heap.size,17,none⟩=some (bP B3 d.it.ans.ch.length b3):=by rw[BW.cell,<- C];rfl
 have Jc:=qh (show kz w1 B0 A2 c2 d.it.ph/\aF mG 10 w1 B0 B3 d.it.ans.ch from by
  subst C;cases hit;exact⟨by assumption,qA.h3 (by assumption)⟩)
 have S:=G.trans (E.mono G.size);have B2:=B.o.below E B.o.lt;have z0:=B2.cell 0;have z1:=B2.cell 1;have y0:=B2.frozen 0;have y1:=B2.frozen 1;have aL:=qh B2;have ny:=qh (show kz W B0 A2 c2 d.it.ph/\aF mG 10 W B0 B3 d.it.ans.ch from ⟨Jc.o.1.keep (E.mono (b4 M G.size)),Jc.o.2.keep (λ _ _ h=>h.keep (E.mono (b4 M G.size))) (E.mono (b4 M G.size))⟩);have Vp:=qh (aB aZ.o E);have bb:=B2.lt;clear hn0 hi hd C hit BW DN Zl B2 B Jc aZ;cases fl
 case false =>
  have aR:=p.o.trans (if_pos rfl);obtain⟨an,ar⟩:∃ z,(d.it.k == 1)=z:=⟨_,rfl⟩;obtain⟨ac,bf⟩:∃ z,(d.it.k == 4)=z:=⟨_,rfl⟩;obtain⟨ao,a0⟩:∃ z,(d.it.k == 6)=z:=⟨_,rfl⟩;have av:=qh (show wZ d.it.k=(an || ac || ao) from by rw[<- ar,<- bf,<- a0];rfl);have HG:=qh (show RR=(d.it.ph,an || ac || ao) from by rw[aR,av.o]);clear av p aR;cases an <;> cases ac <;> cases ao
  all_goals
   go_wp2_with (go_at_call 36;(with_reducible refine KN.o.mono ?_);rintro e2 w2 ⟨rfl,rfl⟩);refine Gu rfl rfl rfl aL.o S λ w' o g=>⟨?_,o⟩;rw[HG.o];exact⟨A2,c2,i,rfl,xe ny.o.1 λ k hk=>g k (by omega)⟩
 have p:=qh (p.o.trans (if_neg (by decide)));obtain⟨R,hR⟩:=af (BJ cb 0 d.it.ans.ch);rw[hR] at p;have HR:=qh hR;clear hR;go_upto_region 12 with (go_at_call 36;(with_reducible refine KN.o.mono ?_);rintro e2 w2 ⟨rfl,rfl⟩);clear q0 q3 a5 a8 ba cX z0 z1 y0 y1;go_loopw [65] (λ i wr=>∃ j:Nat,i = bL bN j/\j<=d.it.ans.ch.length/\Hid (BJ cb j (d.it.ans.ch.drop j)=R)/\DD W wr) (λ i _=>d.it.ans.ch.length+1 - (intOf i).toNat)
 case atStart=>exact⟨0,rfl,b9 _,HR,Below.refl _ _⟩
 case round =>
  obtain⟨j,rfl,hj,X,D⟩:=hrel;obtain⟨wo,rfl⟩:=aG (wr);have ax:=D.size;have Z:=S.trans (D.mono S.size);have v:=aL.o.below D bb;have ag:=qh v;by_cases hlt:j<d.it.ans.ch.length
  case neg =>
   obtain rfl:j=d.it.ans.ch.length:=by omega
   have V:=qh (show RR=([],false) from by
    have h:R=none:=X.o.symm.trans (by rw[List.drop_length];rfl);rw[p.o,h];rfl)
   have z0:=v.cell 0;have z1:=v.cell 1;have y0:=v.frozen 0;have y1:=v.frozen 1;clear v;go_wp2;refine Gu rfl rfl rfl ag.o Z λ w' o g=>⟨?_,o⟩;rw[V.o];exact⟨none,0,0,rfl,KZ _ _⟩
  have X:=qh ((WB hlt).symm.trans X.o);have J:B0<=W.heap.size:=b4 M S.size;obtain⟨ae,rc,rfl,a6,⟨es,I,Q,rfl,hE,oO⟩,l⟩:=aF.at_ (aF.keep (λ _ _ h=>h.keep (D.mono J)) ny.o.2 (D.mono J)) hlt;obtain⟨a9,ha⟩:=af (d.it.ans.ch[j]);rw[ha] at hE l oO X;have aV:=qh hlt;obtain⟨e,he⟩:=af (a9.must);rw[he] at hE;obtain⟨-,-,-,-,-,-,-⟩:=hE;rename_i bg bd bc a7 bi;obtain⟨ds,F⟩:∃ ds:List Value,[bL bN e.k,bL bN e.op,bO e.nm,bL bN e.v.k,bL bN e.v.n,bO e.v.s,bP bg e.v.l.length bd,bP bc e.ar.length a7,bX a9.soft,bP I a9.ph.length Q]=ds:=⟨_,rfl⟩;have l:∀ j' u,ds[j']?=some u->wo.cell? ((ae.add (j*10)).add j')=some u:=by subst F;exact l
  have EZ:=Gl (w:=wo) (ad:=ae.add (j*10)) (show ds.length=10 by subst F;rfl) l;have aw:=Gm (w:=wo) (show ds.length=10 by subst F;rfl) (by subst F;simp[Value.oneCell']);obtain⟨W7,RP,T,B7⟩:=box wo 144 ds.toArray;rw[<- RP] at aw;have q9:W7.cell? ⟨wo.heap.size,9,none⟩=some (bP I a9.ph.length Q):=by rw[B7.cell,<- F];rfl
  have OM:=Z.trans (T.mono Z.size);have P:=D.trans (T.mono ax);obtain⟨x2,al⟩:=af (decide (cb=qg j));have PV:=qh al;have KI:=qh (show Calls lM 28 #[bL bN j] W7 λ e w'=>(∃ t:ByteArray,e = b0 (bO t)/\(b.toList == ((⟨#[99,104,101,99,107,47]⟩:ByteArray) ++ t).toList)=x2/\t.size<=30)/\DD W7 w' from (kC j W7 (by omega) (by omega) (aB Vp.o P)).mono λ _ _ ⟨⟨t,he,ht⟩,hb⟩=>⟨⟨t,he,by
   rw[<- al,ByteArray.toList_eq,ByteArray.toList_eq,qY.o];have:((⟨#[99,104,101,99,107,47]⟩:ByteArray) ++ t).data.toList=qg j:=by
    unfold qg;rw[<- ht];simp
   rw[this];exact Bool.eq_iff_iff.2 (by simp),by
   have:=cp (j:Int) (by omega) (by omega);rw[<- aN,ht];omega⟩,hb⟩)
  have Jc:=qh (oO.keep (T.mono (b4 J ax)));have aD:=qh (ag.o.below T ag.o.lt);have aE:∀ w':World,DD W7 w'->w'.cell? ⟨wo.heap.size,9,none⟩=some (bP I a9.ph.length Q):=λ w' hb=>Below.cell_of hb q9;have Q9:=qh aE;clear v l a6 ha he oO B7 RP F al q9 aE;cases x2
  case false =>
   have X:=qh ((if_neg (by simpa using PV.o)).symm.trans X.o);go_wp2_with (go_at_call 28;(with_reducible refine KI.o.mono ?_);rintro e3 w3 ⟨⟨t,rfl,ht,a2⟩,H⟩;have a3:=P.trans (H.mono P.size));go_roundw
   case rel=>exact⟨j+1,by go_num,aV.o,X,a3⟩
   case measure =>
    have:=aV.o;simp[intOf];omega
  have V:=qh (show RR=(a9.ph,true) from by
   have h2:some a9.ph=R:=(if_pos (by simpa using PV.o)).symm.trans X.o;rw[p.o,<- h2];rfl)
  go_upto_region 15 with (go_at_call 28;(with_reducible refine KI.o.mono ?_);rintro e3 w3 ⟨⟨t,rfl,ht,a2⟩,H⟩;have q9:=Q9.o _ H;have QG:=aD.o.below H aD.o.lt;have z0:=QG.cell 0;have z1:=QG.cell 1;have y0:=QG.frozen 0;have y1:=QG.frozen 1;have gK:=OM.trans (H.mono OM.size);have CZ:=qh (Jc.o.keep (H.mono (b4 J P.size))));have a4:=qh QG;clear QG;go_wp2;refine Gu rfl rfl rfl a4.o gK λ w' o g=>⟨?_,o⟩;rw[V.o];exact⟨I,Q,i,rfl,xe CZ.o λ k hk=>g k (by omega)⟩
end
section
open Go.RowKit
attribute [local go_sem ↓] Go.wp_at_zero Go.wp_at_succ ld_node st_node
def plO (l:aS):List ByteArray:=l.os.map (λ o=>xx l.nm o.code)
def L8 (d:ItemD) (j:Nat):List ByteArray:=d.nm :: (List.range j).map (uq d.nm)
theorem Pq (nm:ByteArray):∀ (ch:List dY) (k:Nat),(xy nm k ch).map (·.1)=(List.range' k ch.length).map (uq nm)
 | [],_=>rfl
 | a :: r,k=>by rw[xy,cz,Pq nm r,cc,List.range'_succ,cz]
theorem BU (L:List aS) (N:List au):bJ L N=L.flatMap plO ++ N.flatMap (λ d=>L8 d.it d.it.ans.ch.length):=by
 unfold bJ eP;rw[cH,cI,cI];congr 1
 .congr 1
  funext l
  unfold adu plO;rw[List.map_map];rfl
 .congr 1
  funext d
  unfold Ky L8;rw[cz,Pq,List.range_eq_range']
theorem Jo (nm:ByteArray) (c:Int):(xx nm c).size=nm.size+2+(cf c).length:=by
 rw[<- aN,<- aN nm];show (58 :: (nm.data.toList ++ 47 :: cf c)).length=_;simp;omega
theorem WC (nm:ByteArray) (i:Nat):(uq nm i).size=nm.size+7+(cf (i:Int)).length:=by
 rw[<- aN,<- aN nm];show (nm.data.toList ++ 47 :: qg i).length=_;unfold qg;simp;omega
theorem Ug (L:List aS) (h:∀ l∈L,l.os.length<=1000):(L.flatMap plO).length<=L.length*1000:=by
 induction L with
 | nil=>simp
 | cons a r ih =>
  have d:=h a (cJ ..);have b:=ih (λ l c=>h l (cK _ c));rw[cL,b5,cc];unfold plO at b ⊢;rw[cA];omega
theorem Uh (N:List au) (h:∀ d∈N,d.it.ans.ch.length<=1000):(N.flatMap (λ d=>L8 d.it d.it.ans.ch.length)).length<=N.length*1001:=by
 induction N with
 | nil=>simp
 | cons a r ih =>
  have e:=h a (cJ ..);have b:=ih (λ l c=>h l (cK _ c));rw[cL,b5,cc];unfold L8 at b ⊢;simp only[cc,cA,List.length_range] at b ⊢;omega
theorem zJ (a b:List ByteArray):dP (a ++ b)=dP a ++ dP b:=by simp[dP]
def yG (b:Nat) (w:World) (v:Value) (l:List ByteArray):Prop:=w.ownsRow b 9 1 v l.length (dP l)
theorem places_any {w:World} {B0 gb m1 m2 m3:Nat} {x:jS} {f:aI} {N:List au} {K:aY} (h:aT w B0 gb m1 m2 m3 x f N K) (av:adz f) (M:f.lists.length<=100/\∀ l∈f.lists,l.os.length<=1000) (aw:∀ d∈N,d.it.ans.ch.length<=1000/\d.it.nm.size<=1000) (am:Tab w) :
  Calls lM 25 #[bR (some ⟨gb,0,none⟩)] w λ e w'=>(∃ v,e = b0 v/\yG w.heap.size w' v (bJ f.lists N))/\DD w w':=by
 obtain⟨i0,aE,aZ,ax,ap⟩:=info_parts qB;have bw:=h.le;have c3:w.cell? ⟨gb,3,none⟩=some (bP x.AS f.lists.length x.cs):=h.blk.cell 3;have tq:=h.nodes.1;rw[BU];have a6:=qh h.form.ls;have HK:=qh h;have HT:=qh am;have Zl:=qh aw;have a3:=qh (show ∀ l∈f.lists,l.nm.size<=1000/\(∀ o∈l.os,0<=o.code/\o.code<=999)/\l.os.length<=1000 from λ l hl=>⟨(av l hl).1,(av l hl).2,M.2 l hl⟩);have aq:=qh (show ∀ k,((f.lists.take k).flatMap plO).length<=100000 from λ k=>by
  have:=Ug (f.lists.take k) (λ l hl=>M.2 l (cM hl));rw[cr] at this;have:=M.1;have:min k f.lists.length*1000<=100*1000:=ct _ (by omega);omega)
 have bk:=M.1;obtain⟨L,hL⟩:=af (f.lists);obtain⟨AS,Xh⟩:=af (x.AS);rw[hL] at a3 aq bk ⊢;rw[hL,Xh] at c3 a6;obtain⟨v1,ae⟩:=af (L.flatMap plO);rw[ae];have a2:=qh ae;clear Xh hL h av M aw am ae;go_enter func25,ntmps25;go_upto_region 3 with (fail);clear c3;go_loopw [17,3] (λ i v wr=>∃ k:Nat,i = bL bN k/\k<=L.length/\Hid (yG w.heap.size wr v ((L.take k).flatMap plO))/\DD w wr) (λ i _ _=>L.length+1 - (intOf i).toNat)
 case atStart=>exact⟨0,rfl,b9 _,qh (cN _ _ _ _),Below.refl _ _⟩
 case round =>
  obtain⟨k,rfl,hk,H,F⟩:=hrel;obtain⟨P,rfl⟩:=aG (wr);have bg:=F.size;by_cases hlt:k<L.length
  case neg =>
   obtain rfl:k=L.length:=by omega
   rw[cq] at H;have bp:=qh (show ∀ k,((N.take k).flatMap (λ d=>L8 d.it d.it.ans.ch.length)).length<=301301 from λ k=>by
    have:=Uh (N.take k) (λ d hd=>(Zl.o d (cM hd)).1);rw[cr] at this;have:min k N.length*1001<=301*1001:=ct _ (by omega);omega)
   have ae:v1.length<=100000:=by have:=aq.o L.length;rwa [cq,a2.o] at this
   rw[a2.o] at H;have a7:=qh (show ∀ a,DD w a->aT a B0 gb m1 m2 m3 x f N K/\Tab a from λ a hq=>⟨HK.o.keep hq,aB HT.o hq⟩);have c5:P.cell? ⟨gb,5,none⟩=some (bP x.AN N.length x.cn):=(a7.o P F).1.blk.cell 5;have bt:=qh (show yG w.heap.size P _ (v1 ++ (N.take 0).flatMap (λ d=>L8 d.it d.it.ans.ch.length)) from by rw[cQ,List.flatMap_nil,cB];exact H.o);obtain⟨AN,LQ⟩:=af (x.AN);rw[LQ] at c5;have bc:=qh LQ;clear H LQ;go_upto_region 13 with (fail);go_loopw [46,3] (λ i v wr=>∃ k:Nat,i = bL bN k/\k<=N.length/\Hid (yG w.heap.size wr v (v1 ++ (N.take k).flatMap (λ d=>L8 d.it d.it.ans.ch.length)))/\DD w wr) (λ i _ _=>N.length+1 - (intOf i).toNat)
   case atStart=>exact⟨0,rfl,b9 _,bt,F⟩
   case round =>
    obtain⟨k,rfl,hk,H,al⟩:=hrel;obtain⟨wp,rfl⟩:=aG (wr);by_cases hlt:k<N.length
    case neg =>
     obtain rfl:k=N.length:=by omega
     rw[cq] at H;go_wp2;go_ret;exact⟨⟨_,rfl,H.o⟩,al⟩
    obtain⟨C,bq⟩:=a7.o wp al;obtain⟨ad,A1,c1,A2,c2,A3,c3,A4,c4,A5,c5,B1,b1,B2,b2,B3,b3,A,c,W,cs,cX,bm,bo,R,Z,J,hit,-,-⟩:=C.ndb hlt;obtain rfl:AN=some ad:=by
     have h:=cX.symm.trans (C.blk.cell 5);injection h with h;injection h with h;exact bc.o.symm.trans h.symm
    have jr:=qh (cu hlt);have a9:=bp.o k;have ag:=Zl.o _ (b7 hlt);obtain⟨d,hd⟩:=af (N[k]);rw[hd] at J ag jr hit;obtain⟨aw,a8⟩:=ag;have aV:=qh hlt;have p1:W.cell? ⟨wp.heap.size,1,none⟩=some (bO d.it.nm):=by rw[Z.cell 1];subst J;rfl
    have bs:W.cell? ⟨wp.heap.size,17,none⟩=some (bP B3 d.it.ans.ch.length b3):=by rw[Z.cell 17];subst J;rfl
    have aR:=qh (show cs.toArray[1]?=some (bO d.it.nm)/\cs.toArray[17]?=some (bP B3 d.it.ans.ch.length b3) from by subst J;exact⟨rfl,rfl⟩);have bd:=al.size;have bj:=R.size;have a5:=Z.lt;have fJ:=qh Z;have O:=al.trans (R.mono bd);obtain⟨lst,yH⟩:=af (v1 ++ (N.take k).flatMap (λ d=>L8 d.it d.it.ans.ch.length));have bi:lst.length<=401301:=by rw[<- yH,b5];omega
    have an:=qh yH;rw[yH] at H;have I:=aQ H.o R;obtain⟨Aj,cj,V⟩:=dX I;subst V;have B:=qh I;clear hd J hit yH I H C bq Z cX;go_upto_region 14 with (fail);clear bm bo;go_upto_region 15 with (at_builtin;refine wpList_append_own _ rfl _ _ 22 rfl w.heap.size 9 i0 (.string ByteArray.empty) 1 16 underlying22 aE aZ ax ap rfl (by decide) _ _ _ rfl (B.o.alloc _) ⟨W.heap.size,0,none⟩ 1 1 [.string d.it.nm] rfl rfl ?c1 ?c2 ?c3 ?c4 ?c5 ?_)
    case c1=>exact cv (ah.new W 9 _)
    case c2=>intro u hu;simp only[cC] at hu;subst hu;rfl
    case c3=>unfold maxLen;omega
    case c4=>omega
    case c5=>simp;omega
    intro v4 w4 m p _;have E:=cD B.o (bS #[bO d.it.nm] 9 (0,0));have ac:=az W (bS #[bO d.it.nm] 9 (0,0));have aD:=(fJ.o.below ac a5).grown p (λ e=>gu E (fJ.o.below ac a5) (by decide) e.symm);have Q:DD w w4:=(O.trans (ac.mono O.size)).grown p (by have:=O.size;simp;omega) (λ g hg=>(E.lt g hg).1);have ba:=qh aD;have bs:w4.cell? ⟨wp.heap.size,17,none⟩=some (bP B3 d.it.ans.ch.length b3):=by rw[aD.cell 17];exact aR.o.2
    have EO:=qh (show yG w.heap.size w4 v4 (lst ++ L8 d.it 0) from by
     unfold yG;rw[zJ,b5];exact m)
    clear m p E ac aD;go_upto_region 17 with (fail);go_loopw [61,3] (λ i v n=>∃ j:Nat,i = bL bN j/\j<=d.it.ans.ch.length/\Hid (yG w.heap.size n v (lst ++ L8 d.it j))/\Hid (ah n wp.heap.size 110 cs.toArray)/\DD w n) (λ i _ _=>d.it.ans.ch.length+1 - (intOf i).toNat)
    case atStart=>exact⟨0,rfl,b9 _,EO,ba,Q⟩
    case round =>
     obtain⟨j,rfl,hj,Hg,s,q⟩:=hrel;obtain⟨n,rfl⟩:=aG (wr);by_cases hjl:j<d.it.ans.ch.length
     case neg =>
      obtain rfl:j=d.it.ans.ch.length:=by omega
      have sF:=qh (show yG w.heap.size n _ (v1 ++ (N.take (k+1)).flatMap (λ d=>L8 d.it d.it.ans.ch.length)) from by
       rw[jr.o,cR,<- cE,an.o];simpa using Hg.o)
      go_wp2;go_roundw
      case rel=>exact⟨k+1,by go_num,aV.o,sF,q⟩
      case measure =>
       have:=aV.o;simp[intOf];omega
     have aa:=qh (show L8 d.it (j+1)=L8 d.it j ++ [uq d.it.nm j] from by unfold L8;rw[List.range_succ];simp);have D6:=qh hjl;have bz:(L8 d.it j).length=j+1:=by unfold L8;simp
     obtain⟨D,ab⟩:=af (lst ++ L8 d.it j);have bE:D.length<=500000:=by rw[<- ab,b5];omega
     have bl:=qh ab;rw[ab] at Hg;have I:=Hg.o;obtain⟨Aj,cj,V⟩:=dX I;subst V;have B:=qh (show n.ownsRow w.heap.size 9 1 (bP Aj D.length cj) D.length (dP D) from I);have S:=qh (show ∀ a,DD n a->a.cell? ⟨wp.heap.size,1,none⟩=some (bO d.it.nm) from λ a z=>Below.cell_of z (by rw[s.o.cell 1];exact aR.o.1));have qY:=qh (show ∀ a,DD n a->ah a wp.heap.size 110 cs.toArray from λ a z=>s.o.below z s.o.lt);have KI:=qh (show ∀ a,DD n a->Calls lM 28 #[bL bN j] a λ e w'=>∃ t:ByteArray,e = b0 (bO t)/\t.data.toList=cf (j:Int)/\t.size<=30/\DD n w' from λ a z=>(kC (j:Int) a (by omega) (by omega) (aB HT.o (q.trans (z.mono q.size)))).mono λ _ _ ⟨⟨t,he,ht⟩,a0⟩=>⟨t,he,ht,by
      have:=cp (j:Int) (by omega) (by omega);rw[<- aN,ht];omega,z.trans (a0.mono z.size)⟩)
     have r0:=S.o n (Below.refl _ _);have ay:w.heap.size<=n.heap.size:=q.size;have br:¬ 9223372036854775807<d.it.nm.size+7:=by omega
     clear ab I Hg;go_upto_region 18 with (fail);go_region_held3 (λ a=>a.cell? ⟨wp.heap.size,1,none⟩=some (bO d.it.nm))
      (first | exact S.o _ (Below.refl _ _) | exact S.o _ (Below.refl _ _).drew | exact S.o _ r | exact S.o _ (r.trans ((az _ _).mono r.size)) | exact U)
      (first
       | (go_at_call 28;(first | (with_reducible refine (KI.o _ (Below.refl _ _)).mono ?_) | (with_reducible refine (KI.o _ (Below.refl _ _).drew).mono ?_));rintro e9 X ⟨t,rfl,ht,bf,r⟩;have bn:¬ 9223372036854775807<d.it.nm.size+7+t.size:=by omega)
       | (refine step_append_lies _ rfl _ _ 22 rfl w.heap.size 9 i0 (.string ByteArray.empty) 1 16 underlying22 aE aZ ax ap rfl (by decide) _ D.length (dP D) rfl ((aQ B.o r).alloc _) ⟨X.heap.size,0,none⟩ 1 1 [.string (d.it.nm ++ (⟨#[47,99,104,101,99,107,47]⟩:ByteArray) ++ t)] rfl rfl (cv (ah.new X 9 _)) (by intro u hu;simp only[cC] at hu;subst hu;rfl) (by decide) (by unfold maxLen;omega) (by omega) (by have:=r.size;simp;omega) _ rfl ?_;intro g4 RN w4 m p lu T;have G:=qY.o _ (r.trans ((az X (.cells #[.string (d.it.nm ++ (⟨#[47,99,104,101,99,107,47]⟩:ByteArray) ++ t)] 9 (0,0))).mono r.size));have E:=cD (aQ B.o r) (.cells #[.string (d.it.nm ++ (⟨#[47,99,104,101,99,107,47]⟩:ByteArray) ++ t)] 9 (0,0));have U:w4.cell? ⟨wp.heap.size,1,none⟩=some (.string d.it.nm):=by rw[(G.grown p (λ e=>gu E G (by decide) e.symm)).cell 1];exact aR.o.1))
     all_goals
      have aL:w.heap.size<=(X.alloc (bS #[bO (d.it.nm ++ (⟨#[47,99,104,101,99,107,47]⟩:ByteArray) ++ t)] 9 (0,0))).heap.size:=by have:=r.size;simp;omega
      have Q:DD w w4:=((q.trans (r.mono q.size)).trans ((az X (bS #[bO (d.it.nm ++ (⟨#[47,99,104,101,99,107,47]⟩:ByteArray) ++ t)] 9 (0,0))).mono (b4 ay r.size))).grown p aL (λ g hg=>(E.lt g hg).1);have aM:=qh (G.grown p (λ e=>gu E G (by decide) e.symm));have EO:=qh (show yG w.heap.size w4 (bP (some ⟨g4,0,none⟩) (D.length+1) RN) (lst ++ L8 d.it (j+1)) from by
       have es:(d.it.nm ++ (⟨#[47,99,104,101,99,107,47]⟩:ByteArray) ++ t)=uq d.it.nm j:=by
        refine qU ?_;show _=d.it.nm.data.toList ++ 47 :: (99 :: 104 :: 101 :: 99 :: 107 :: 47 :: cf (j:Int));rw[<- ht];simp
       rw[es] at m;rw[aa.o,<- cE,bl.o];unfold yG;rw[zJ,b5];exact m)
      clear m p lu T U G E
      (try go_wp2_with fail)
      go_roundw
      case rel=>exact⟨j+1,by go_num,D6.o,EO,aM,Q⟩
      case measure =>
       have:=D6.o;simp[intOf];omega
  obtain⟨ad,ci,rfl,C,⟨A,c,rfl,ar,be,a8⟩,b⟩:=aF.at_ a6.o hlt;have MV:=qh (a3.o _ (b7 hlt));have jr:=qh (cu hlt);have a9:=aq.o k;obtain⟨d,hd⟩:=af (L[k]);rw[hd] at b ar be a8 MV jr;have bx:=MV.o.1;have bv:=MV.o.2.2;have aV:=qh hlt;have p0:P.cell? (ad.add (k*2))=some (bO d.nm):=Below.cell_of F (b 0 _ rfl);have p1:P.cell? ⟨(ad.add (k*2)).block,(ad.add (k*2)).off+1,none⟩=some (bP A d.os.length c):=Below.cell_of F (b 1 _ rfl);obtain⟨W,hW,oM,Z⟩:=box P 92 #[bO d.nm,bP A d.os.length c];have q1:=Z.cell 1;have bh:=qh ar;have fJ:=qh Z;have bA:=Z.lt;have bj:=oM.size;have R:=F.trans (oM.mono bg);obtain⟨v0,a1⟩:=aG ((L.take k).flatMap plO);have bb:=qh a1;rw[<- a1] at H a9;have Jv:=qh (show yG w.heap.size W _ (v0 ++ (d.os.take 0).map (λ o=>xx d.nm o.code)) from by
   rw[cQ,List.map_nil,cB];exact aQ H.o oM)
  clear b hd C ar Z a1 H;go_upto_region 6 with (fail);rw[<- hW];clear p0 p1 hW q1;go_loopw [24,3] (λ i v n=>∃ j:Nat,i = bL bN j/\j<=d.os.length/\Hid (yG w.heap.size n v (v0 ++ (d.os.take j).map (λ o=>xx d.nm o.code)))/\Hid (ah n P.heap.size 92 #[bO d.nm,bP A d.os.length c])/\DD w n) (λ i _ _=>d.os.length+1 - (intOf i).toNat)
  case atStart=>exact⟨0,rfl,b9 _,Jv,fJ,R⟩
  case round =>
   obtain⟨j,rfl,hj,Hg,s,q⟩:=hrel;obtain⟨n,rfl⟩:=aG (wr);by_cases hjl:j<d.os.length
   case neg =>
    obtain rfl:j=d.os.length:=by omega
    have sF:=qh (show yG w.heap.size n _ ((L.take (k+1)).flatMap plO) from by
     rw[jr.o,cR,<- bb.o];have h:=Hg.o;rw[cq] at h;simpa [plO] using h)
    go_wp2;go_roundw
    case rel=>exact⟨k+1,by go_num,aV.o,sF,q⟩
    case measure =>
     have:=aV.o;simp[intOf];omega
   obtain⟨ao,ci,rfl,C,⟨A2,c2,rfl,oO⟩,b⟩:=aF.at_ bh.o hjl;have ag:=MV.o.2.1 _ (b7 hjl);have aa:=qh (cu hjl);obtain⟨o,ho⟩:=af (d.os[j]);rw[ho] at b oO ag aa;have D6:=qh hjl;have p0:n.cell? (ao.add (j*4))=some (bL bN o.code):=Below.cell_of q (b 0 _ rfl);have p1:n.cell? ⟨(ao.add (j*4)).block,(ao.add (j*4)).off+1,none⟩=some (bP A2 o.ph.length c2):=Below.cell_of q (b 1 _ rfl);have p2:n.cell? ⟨(ao.add (j*4)).block,(ao.add (j*4)).off+2,none⟩=some (bX o.al):=Below.cell_of q (b 2 _ rfl);have p3:n.cell? ⟨(ao.add (j*4)).block,(ao.add (j*4)).off+3,none⟩=some (bX o.la):=Below.cell_of q (b 3 _ rfl);obtain⟨Y,a4,qf,ak⟩:=box n 95 #[bL bN o.code,bP A2 o.ph.length c2,bX o.al,bX o.la];obtain⟨lst,yH⟩:=af (v0 ++ (d.os.take j).map (λ o=>xx d.nm o.code));have bi:lst.length<=200000:=by rw[<- yH,b5,cA,cr];omega
   have an:=qh yH;rw[yH] at Hg;have I:=aQ Hg.o qf;obtain⟨Aj,cj,V⟩:=dX I;subst V;have B:=qh I;have y:=q.trans (qf.mono q.size);have qY:=qh (show ∀ a,DD Y a->ah a P.heap.size 92 #[bO d.nm,bP (some ao) d.os.length c]/\ah a n.heap.size 95 #[bL bN o.code,bP A2 o.ph.length c2,bX o.al,bX o.la] from λ a z=>⟨(s.o.below qf s.o.lt).below z (s.o.below qf s.o.lt).lt,ak.below z ak.lt⟩);have S:=qh (show ∀ a,DD Y a->a.cell? ⟨P.heap.size,0,none⟩=some (bO d.nm)/\a.cell? ⟨n.heap.size,0,none⟩=some (bL bN o.code) from λ a z=>⟨Below.cell_of z ((s.o.below qf s.o.lt).cell 0),Below.cell_of z (ak.cell 0)⟩);have KI:=qh (show ∀ a,DD Y a->Calls lM 28 #[bL bN o.code] a λ e w'=>∃ t:ByteArray,e = b0 (bO t)/\t.data.toList=cf o.code/\t.size<=30/\DD Y w' from λ a z=>(kC o.code a (by omega) (by omega) (aB HT.o (y.trans (z.mono y.size)))).mono λ _ _ ⟨⟨t,he,ht⟩,a0⟩=>⟨t,he,ht,by
    have:=cp o.code (by omega) (by omega);rw[<- aN,ht];omega,z.trans (a0.mono z.size)⟩)
   obtain⟨r0,r1⟩:=S.o Y (Below.refl _ _);have ay:w.heap.size<=Y.heap.size:=y.size;have br:¬ 9223372036854775807<1+d.nm.size:=by omega
   have bB:¬ 9223372036854775807<1+d.nm.size+1:=by omega
   clear b ho C oO ak yH I Hg;go_upto_region 8 with (fail);rw[<- a4];clear p0 p1 p2 p3 a4;go_region_held3 (λ a=>a.cell? ⟨P.heap.size,0,none⟩=some (bO d.nm)/\a.cell? ⟨n.heap.size,0,none⟩=some (bL bN o.code))
    (first | exact S.o _ (Below.refl _ _) | exact S.o _ (Below.refl _ _).drew | exact S.o _ r | exact S.o _ (r.trans ((az _ _).mono r.size)) | exact U)
    (first
     | (go_at_call 28;(first | (with_reducible refine (KI.o _ (Below.refl _ _)).mono ?_) | (with_reducible refine (KI.o _ (Below.refl _ _).drew).mono ?_));rintro e9 X ⟨t,rfl,ht,bf,r⟩;have bn:¬ 9223372036854775807<1+d.nm.size+1+t.size:=by omega)
     | (refine step_append_lies _ rfl _ _ 22 rfl w.heap.size 9 i0 (.string ByteArray.empty) 1 16 underlying22 aE aZ ax ap rfl (by decide) _ lst.length (dP lst) rfl ((aQ B.o r).alloc _) ⟨X.heap.size,0,none⟩ 1 1 [.string (((⟨#[58]⟩:ByteArray) ++ d.nm) ++ (⟨#[47]⟩:ByteArray) ++ t)] rfl rfl (cv (ah.new X 9 _)) (by intro u hu;simp only[cC] at hu;subst hu;rfl) (by decide) (by unfold maxLen;omega) (by omega) (by have:=r.size;simp;omega) _ rfl ?_;intro g4 RN w4 m p lu T;have G:=qY.o _ (r.trans ((az X (.cells #[.string (((⟨#[58]⟩:ByteArray) ++ d.nm) ++ (⟨#[47]⟩:ByteArray) ++ t)] 9 (0,0))).mono r.size));have E:=cD (aQ B.o r) (.cells #[.string (((⟨#[58]⟩:ByteArray) ++ d.nm) ++ (⟨#[47]⟩:ByteArray) ++ t)] 9 (0,0));have U:w4.cell? ⟨P.heap.size,0,none⟩=some (.string d.nm)/\w4.cell? ⟨n.heap.size,0,none⟩=some (.int .i64 o.code):=⟨(G.1.grown p (λ e=>gu E G.1 (by decide) e.symm)).cell 0,(G.2.grown p (λ e=>gu E G.2 (by decide) e.symm)).cell 0⟩))
   all_goals
    have aL:w.heap.size<=(X.alloc (bS #[bO (((⟨#[58]⟩:ByteArray) ++ d.nm) ++ (⟨#[47]⟩:ByteArray) ++ t)] 9 (0,0))).heap.size:=by have:=r.size;simp;omega
    have Q:DD w w4:=((y.trans (r.mono y.size)).trans ((az X (bS #[bO (((⟨#[58]⟩:ByteArray) ++ d.nm) ++ (⟨#[47]⟩:ByteArray) ++ t)] 9 (0,0))).mono (b4 ay r.size))).grown p aL (λ g hg=>(E.lt g hg).1);have aM:=qh (G.1.grown p (λ e=>gu E G.1 (by decide) e.symm));have EO:=qh (show yG w.heap.size w4 (bP (some ⟨g4,0,none⟩) (lst.length+1) RN) (v0 ++ (d.os.take (j+1)).map (λ o=>xx d.nm o.code)) from by
     have es:(((⟨#[58]⟩:ByteArray) ++ d.nm) ++ (⟨#[47]⟩:ByteArray) ++ t)=xx d.nm o.code:=by
      refine qU ?_;show _=58 :: (d.nm.data.toList ++ 47 :: cf o.code);rw[<- ht];simp
     rw[es] at m;have e:v0 ++ (d.os.take (j+1)).map (λ o=>xx d.nm o.code)=lst ++ [xx d.nm o.code]:=by rw[aa.o,cH,<- cE,an.o];rfl
     rw[e];unfold yG;rw[zJ,b5];exact m)
    clear m p lu T U G E
    (try go_wp2_with fail)
    go_roundw
    case rel=>exact⟨j+1,by go_num,D6.o,EO,aM,Q⟩
    case measure =>
     have:=D6.o;simp[intOf];omega
end
section
open Go.RowKit
attribute [local go_sem ↓] Go.wp_at_zero Go.wp_at_succ ld_form st_form
structure adG (f:aI):Prop where
 co:adz f
 la:1<=f.ag.length/\f.ag.length<=6
 ls:f.lists.length<=100/\∀ l∈f.lists,l.os.length<=1000
 ch:∀ d∈ai f,d.it.ans.ch.length<=1000/\d.it.nm.size<=1000
theorem Dj {f:aI} (h:adG f):∀ s∈bJ f.lists (ai f),s.size<=2000:=by
 rw[BU];intro s a;rcases List.mem_append.1 a with a | a
 .obtain⟨l,j,a⟩:=cS.1 a;obtain⟨o,e,rfl⟩:=cF.1 a;rw[Jo];have c:=h.co l j;have k:=c.2 o e;have:=cp o.code (by omega) (by omega);omega
 .obtain⟨d,g,a⟩:=cS.1 a;have c:=h.ch d g;rcases cT.1 a with rfl | a
  .omega
  .obtain⟨i,b,rfl⟩:=cF.1 a;rw[WC];have b:=List.mem_range.1 b;have:=cp (i:Int) (by omega) (by omega);omega
theorem yI {f:aI} (h:adG f) (g:(ai f).length<=301):(bJ f.lists (ai f)).length<=401301:=by
 rw[BU,b5];have a:=Ug f.lists h.ls.2;have b:=Uh (ai f) (λ d e=>(h.ch d e).1);have c:=h.ls.1;have:f.lists.length*1000<=100*1000:=ct _ c;have:(ai f).length*1001<=301*1001:=ct _ g;omega
theorem WG {f:aI} (h:aX f=0):∀ s∈bJ f.lists (ai f),(findF f.lists (ai f) s).1≠[]->(findF f.lists (ai f) s).1.length=f.ag.length:=by
 intro s d a;obtain⟨t,b,rfl⟩:=cF.1 d;have c:=O8 h;rw[(BM c b).1] at a ⊢;exact (Jm c b).resolve_left a
def nY (l:List jO):List Value:=l.flatMap (λ e=>[bO e.1,bO e.2])
theorem WH (l:List jO) (e:jO):nY (l ++ [e])=nY l ++ [bO e.1,bO e.2]:=by simp[nY]
theorem BV (L:List aS) (N:List au) (i:Nat) (w:ByteArray) (r:List ByteArray):iq L N i (w :: r)=if (findF L N w).1 = [] then iq L N i r else (w,(findF L N w).1.getD i ⟨#[]⟩) :: iq L N i r:=rfl
theorem Pv (L:List aS) (N:List au) (i:Nat):∀ a b:List ByteArray,iq L N i (a ++ b)=iq L N i a ++ iq L N i b
 | [],_=>rfl
 | w :: r,b=>by
  rw[List.cons_append,BV,BV,Pv L N i r b];split <;> rfl
theorem Gw (L:List aS) (N:List au) (i:Nat):∀ a:List ByteArray,(iq L N i a).length<=a.length
 | []=>cx _
 | w :: r=>by
  have:=Gw L N i r;unfold iq;split
  .rw[cc];omega
  .rw[cc,cc];omega
def aaJ (b:Nat) (w:World) (v:Value) (l:List jO):Prop:=w.ownsRow b 36 2 v l.length (nY l)
theorem adH:(lM.info? 36).map (λ i=>(i.zero,i.size,i.bytes))=some (some (.agg #[.string ⟨#[]⟩,.string ⟨#[]⟩]),2,32):=by kernel_rfl
def aon (f:aI) (i:Int) (B:Nat) (e:Ending) (w':World):Prop:=(aX f≠0/\e = b0 (.tuple #[bP none 0 0,bL bN (aX f)])) \/
 (aX f=0/\aW i 0 ((f.ag.length:Int) - 1)=true/\e = b0 (.tuple #[bP none 0 0,bL bN 1])) \/
 (aX f=0/\∃ (k:Nat) (v:Value),i=k/\k<f.ag.length/\e = b0 (.tuple #[v,bL bN 0])/\aaJ B w' v (iq f.lists (ai f) k (bJ f.lists (ai f))))
theorem Px {w:World} {f:aI} {x:jS} (hf:jq w w.heap.size f x) (ac:nV (ai f)) (z:aX f=0->adG f) (q:Tab w) (R:Mx w) (i:Int) :
  Calls lM 8 #[.agg (BK f x),bL bN i] w λ e w'=>aon f i w.heap.size e w'/\DD w w':=by
 obtain⟨W,hW,l,BA⟩:=box w 26 (BK f x);have l1:(wL 26 (bR (some ⟨w.heap.size,0,none⟩))).run lM W = .ok (.agg (BK f x)) W:=lQ (cs:=[bO f.nm,bL bN f.jo,bP x.AL f.ag.length x.cl,bP x.AS f.lists.length x.cs,bP x.AI f.items.length x.ci]) rfl (gZ BA);obtain⟨i0,aL,aR,ay,ao⟩:=info_parts adH;have KA:=qh (Je ((hf.keep l).up l.size) ac (aB q l) (R.below l));have aa:=hf.la.2.2.1;have jU:=qh (And.intro q R);have WI:=qh z;have Q:=qh (And.intro l BA);clear hf ac q R z BA l;go_enter func8,ntmps8;go_upto_region 1 with (fail);rw[<- hW];clear hW;go_upto_region 2 with (go_at_call 22;(with_reducible refine KA.o.mono ?_);rintro e1 w1 ⟨hr,pX⟩;have Dn:=qh pX;clear pX;rcases hr with ⟨hc,rfl⟩ | ⟨hc,B0,gb,m1,m2,m3,A,c,rfl,L⟩)
 .have B:=qh hc;clear hc;obtain⟨n,hn⟩:=af (aX f);rw[hn] at B ⊢;have h0:(n != 0)=true:=bne_iff_ne.2 B.o;have HN:=qh hn;clear hn;go_wp2;go_ret2;exact⟨.inl ⟨by rw[HN.o];exact B.o,by rw[HN.o];rfl⟩,Q.o.1.trans (Dn.o.mono Q.o.1.size)⟩
 have B:=qh hc;have X:=Q.o.1.trans (Dn.o.mono Q.o.1.size);have HK:=qh L;obtain⟨-,c2⟩:True/\w1.cell? ⟨w.heap.size,2,none⟩=some (bP x.AL f.ag.length x.cl):=⟨trivial,((Q.o.2.below Dn.o Q.o.2.lt).cell 2)⟩;have av:=aa;unfold maxLen at av;have KO:=qh (jk i 0 ((f.ag.length:Int) - 1) w1);clear hc L aa l1;obtain⟨o,ho⟩:=af (aW i 0 ((f.ag.length:Int) - 1));rw[ho] at KO;have U:=qh ho;clear ho;cases o with
 | true =>
  go_wp2_with (go_at_call 30;(with_reducible refine KO.o.mono ?_);rintro e2 b ⟨rfl,rfl⟩);go_ret2;exact⟨.inr (.inl ⟨B.o,U.o,rfl⟩),X⟩
 | false =>
  obtain⟨k,hk,ap⟩:∃ k:Nat,i=k/\k<f.ag.length:=by
   have h:=U.o;unfold aW at h;simp only[Bool.or_eq_false_iff,decide_eq_false_iff_not] at h;exact⟨i.toNat,by omega,by omega⟩
  subst hk;have V:=WI.o B.o;have KP:=qh (places_any HK.o V.co V.ls V.ch (aB jU.o.1 X));have Jc:=qh (WG B.o);have al:=qh (Dj V);have C:=yI V HK.o.nodes.1;obtain⟨P,hP⟩:=af (bJ f.lists (ai f));rw[hP] at KP Jc al C;have HP:=qh hP;clear V hP;go_upto_region 9 with (first
   | (go_at_call 30;(with_reducible refine KO.o.mono ?_);rintro e2 b ⟨rfl,rfl⟩)
   | (go_at_call 25;(with_reducible refine KP.o.mono ?_);rintro e2 b ⟨⟨v,rfl,O⟩,t⟩;obtain⟨AP,cP,rfl⟩:=dX O))
  have p:=X.trans (t.mono X.size);have an:=p.size;have HQ:=qh (show ∀ a,DD b a->Reads a b.heap.size 1 AP P.length (dP P) from λ a D=>(Reads.fB O).below D);obtain⟨N,hN⟩:=af (ai f);have KF:=qh (show ∀ a s,DD b a->s∈P->Calls lM 24 #[bR (some ⟨gb,0,none⟩),bO s] a λ e w'=>TZ B0 (findF f.lists N s) e w'/\DD a w' from λ a s D hs=>by
   have hq:=t.trans (D.mono t.size);have Z:=X.trans (hq.mono X.size);have z:=WI.o B.o;have:=al.o s hs;have h:=Jn (HK.o.keep hq) z.co (λ d hd=>(z.ch d hd).1) (s:=s) (by omega) (aB jU.o.1 Z) (jU.o.2.below Z)
   rwa [hN] at h)
  have aq:=qh (show aaJ b.heap.size b (bP none 0 0) (iq f.lists N k (P.take 0)) from cN _ _ _ _);rw[hN] at Jc HP;have HN:=qh hN;have ax:=qh (show B0<=b.heap.size from b4 HK.o.le t.size);have aM:=qh p;clear O c2 hN t p KA KP KO Dn Q;go_loopw [30,8] (λ i v wr=>∃ j:Nat,i = bL bN j/\j<=P.length/\Hid (aaJ b.heap.size wr v (iq f.lists N k (P.take j)))/\DD b wr) (λ i _ _=>P.length+1 - (intOf i).toNat)
  case atStart=>exact⟨0,rfl,b9 _,aq,Below.refl _ _⟩
  case round =>
   obtain⟨j,rfl,hj,U,D⟩:=hrel;obtain⟨wo,rfl⟩:=aG (wr);by_cases hlt:j<P.length
   case neg =>
    obtain rfl:j=P.length:=by omega
    rw[cq] at U;go_wp2;go_ret2;exact⟨.inr (.inr ⟨B.o,k,_,rfl,ap,rfl,own_base (by rw[HN.o,HP.o];exact U.o) an⟩),aM.o.trans (D.mono an)⟩
   obtain⟨ad,u,rfl,L,H,ak⟩:=(HQ.o wo D).at_ hlt;obtain rfl:u = bO P[j]:=by
    unfold dP at H;rw[cU,cG hlt] at H;exact (Option.some.inj H).symm
   have KJ:=qh (KF.o wo P[j] D (b7 hlt));have G:=Jc.o P[j] (b7 hlt);have F:=qh (show iq f.lists N k (P.take (j+1))=iq f.lists N k (P.take j) ++ iq f.lists N k [P[j]] from by rw[cu hlt,Pv]);have aw:(iq f.lists N k (P.take j)).length<=401301:=by
    have:=Gw f.lists N k (P.take j);rw[cr] at this;omega
   obtain⟨E0,ae⟩:=af (iq f.lists N k (P.take j));rw[ae] at aw U F;rw[BV] at F;obtain⟨s,hs⟩:=af (P[j]);rw[hs] at ak KJ G F;obtain⟨⟨ph,ok⟩,hr⟩:∃ r,findF f.lists N s=r:=⟨_,rfl⟩;rw[hr] at KJ G F;dsimp only at G F;have J:=qh G;have aV:=qh hlt;clear hs hr G H ae;go_upto_region 11 with (go_at_call 24;(with_reducible refine KJ.o.mono ?_);rintro e3 S ⟨⟨A3,c3,n3,rfl,M⟩,I⟩);have K:=D.trans (I.mono D.size);have y:DD S (S.alloc (bS #[bP A3 ph.length c3,bL bN n3] 85 (0,0))):=az S _;have BX:=ah.new S 85 #[bP A3 ph.length c3,bL bN n3];obtain⟨W4,qX⟩:=aG (S.alloc (bS #[bP A3 ph.length c3,bL bN n3] 85 (0,0)));rw[<- qX] at y BX ⊢;have q0:=BX.cell 0;have Vr:=K.trans (y.mono K.size);have ar:B0<=S.heap.size:=by
    have:=ax.o;have:=K.size;omega
   have tZ:=M.keep (y.mono ar);have sF:=qh (aQ U.o (I.trans (y.mono I.size)));have ag:=M.2.2.1;unfold maxLen at ag;clear qX y BX ak KJ M;cases ph with
   | nil =>
    have HR:=qh (show iq f.lists N k (P.take (j+1))=E0 from by rw[F.o,if_pos rfl];exact cB _);clear F J;go_wp2;go_roundw
    case rel=>exact⟨j+1,by go_num,aV.o,by rw[HR.o];exact sF,Vr⟩
    case measure =>
     have:=aV.o;simp[intOf];omega
   | cons p0 pr =>
    have C:=J.o (by simp);obtain⟨ph,G⟩:=af (p0 :: pr);have HR:=qh (show iq f.lists N k (P.take (j+1))=E0 ++ [(s,(p0 :: pr).getD k ⟨#[]⟩)] from by rw[F.o,if_neg (by simp)];rfl);rw[G] at C HR tZ q0 ag ⊢;have T:k<ph.length:=by omega
    obtain⟨a4,u4,rfl,a0,E,Y⟩:=tZ.1.at_ T;obtain rfl:u4 = bO (ph.getD k ⟨#[]⟩):=by
     unfold dP at E;rw[cU,cG T] at E;rw[cV,cG T];exact (Option.some.inj E).symm
    obtain⟨tx,ab⟩:=af (ph.getD k ⟨#[]⟩);rw[ab] at HR Y;clear G tZ ab E a0 F J C;obtain⟨Ae,ce,rfl⟩:=dX sF.o;have aE:=Vr.size;go_wp2_with (at_builtin;refine wpList_append_own _ rfl _ _ 27 rfl b.heap.size 36 i0 (.agg #[.string ⟨#[]⟩,.string ⟨#[]⟩]) 2 32 underlying27 aL aR ay ao rfl (by decide) _ _ _ rfl (sF.o.alloc _) ⟨W4.heap.size,0,none⟩ 1 1 [.string s,.string tx] rfl rfl ?c1 ?c2 ?c3 ?c4 ?c5 ?_)
    case c1=>exact cv (ah.new W4 36 _)
    case c2=>intro u H;simp only[cT,List.not_mem_nil,or_false] at H;rcases H with rfl | rfl <;> rfl
    case c3=>unfold maxLen;omega
    case c4=>omega
    case c5=>simp;omega
    intro v5 w5 m am _;have OV:=sF.o.alloc (bS #[bO s,bO tx] 36 (0,0));have aD:DD b w5:=(Vr.trans ((az W4 (bS #[bO s,bO tx] 36 (0,0))).mono aE)).grown am (by simp;omega) (λ g hg=>(OV.lt g hg).1);have EO:=qh (show aaJ b.heap.size w5 v5 (iq f.lists N k (P.take (j+1))) from by
     rw[HR.o];unfold aaJ;rw[WH,b5];exact m)
    clear m am OV q0 Y;go_wp2;go_roundw
    case rel=>exact⟨j+1,by go_num,aV.o,EO,aD⟩
    case measure =>
     have:=aV.o;simp[intOf];omega
end
open Go.RowKit
structure Off (L:List Nat) (w w':World):Prop where
 os:w'.os=w.os
 tape:w'.tape=w.tape
 output:w'.output=w.output
 size:w.heap.size<=w'.heap.size
 far:∀ k,k<w.heap.size->k ∉ L->w'.heap[k]?=w.heap[k]?
theorem Off.refl (L:List Nat) (w:World):Off L w w:=⟨rfl,rfl,rfl,cx _,λ _ _ _=>rfl⟩
theorem Off.trans {L L':List Nat} {w w1 w2:World} (h:Off L w w1) (a:Off L' w1 w2) (d:∀ k∈L',k∈L\/w.heap.size<=k):Off L w w2:=
 ⟨a.os.trans h.os,a.tape.trans h.tape,a.output.trans h.output,b4 h.size a.size,λ k b c=>(a.far k (Nat.lt_of_lt_of_le b h.size) (λ e=>(d k e).elim c (by omega))).trans (h.far k b c)⟩
theorem Off.more {L L':List Nat} {w w1:World} (h:Off L w w1) (b:∀ k∈L,k∈L'\/w.heap.size<=k):Off L' w w1:=⟨h.os,h.tape,h.output,h.size,λ k a c=>h.far k a (λ e=>(b k e).elim c (by omega))⟩
theorem Off.stay {L:List Nat} {w w1:World} {p:Nat->Prop} (h:Off L w w1) (a:∀ k,p k->k ∉ L):aK p w w1:=⟨h.size,λ k b c=>h.far k c (a k b)⟩
theorem Off.blk {L:List Nat} {w w1:World} {g:Nat} {T:TypeId} {cs:Array Value} (h:Off L w w1) (a:ah w g T cs) (b:g ∉ L):ah w1 g T cs:=(h.far g a.lt b).trans a
theorem Off.of {L:List Nat} {w w1:World} (h:DD w w1):Off L w w1:=⟨h.os,h.tape,h.output,h.size,λ k a _=>h.block k a⟩
theorem Off.below {L:List Nat} {w w1:World} {B:Nat} (h:Off L w w1) (c:B<=w.heap.size) (a:∀ k∈L,B<=k):Below B w w1:=⟨h.os,h.tape,h.output,h.size,λ k b=>h.far k (by omega) (λ e=>by have:=a k e;omega)⟩
theorem Off.grown {L:List Nat} {w w1:World} {a:Option Nat} (h:w.grownBy w1 a) (c:∀ g,a=some g->g∈L):Off L w w1:=⟨h.os,h.tape,h.output,h.size,λ k b d=>h.block k b (λ e=>d (c k e.symm))⟩
abbrev fp (v:Value):List Nat:=v.ownBlock.toList
theorem aK.imp {p q:Nat->Prop} {w w1:World} (h:aK p w w1) (a:∀ k,q k->p k):aK q w w1:=⟨h.1,λ k b c=>h.2 k (a k b) c⟩
theorem dB {v:Value} {k:Nat}:k∈fp v ↔ v.ownBlock=some k:=by
 unfold fp;cases v.ownBlock <;> simp[eq_comm]
theorem jP {w w1:World} {B size n:Nat} {e:TypeId} {v:Value} {xs:List Value} (h:w.ownsRow B e size v n xs) (i:aK (λ k=>k∈fp v) w w1):w1.ownsRow B e size v n xs:=by
 have d:=h.lt;refine⟨h.1,?_⟩;rcases h.2 with ⟨a,l⟩ | ⟨g,c,b,a,j,o,m⟩
 .exact .inl ⟨a,l⟩
 .have f:v.ownBlock=some g:=by rw[a];rfl
  exact .inr ⟨g,c,b,a,j,(i.2 g (dB.2 f) (d g f).2).trans o,m⟩
def Dk (w:World) (v:Value) (l:List ByteArray):Prop:=(∃ A c,v = bP A l.length c)/\w.ownsRow 0 9 1 v l.length (dP l)/\∀ s∈l,s.size<=maxLen
theorem Dk.keep {w w1:World} {v:Value} {l:List ByteArray} (h:Dk w v l) (a:aK (λ k=>k∈fp v) w w1):Dk w1 v l:=⟨h.1,jP h.2.1 a,h.2.2⟩
def pV {α:Type} (T:TypeId) (n:Nat) (P:α->List Value->List Nat->Prop) (w:World) (v:Value) (l:List α) (L:List Nat):Prop:=
 ∃ A c xs,∃ Ls:List (List Nat),v = bP A l.length c/\w.ownsRow 0 T n v l.length xs/\Ls.length=l.length/\(∀ i (h:i<l.length),P l[i] ((xs.drop (i*n)).take n) (Ls.getD i []))/\L=fp v ++ Ls.flatten
def Ie (w:World) (o:kN) (cs:List Value) (L:List Nat):Prop:=∃ v,cs = [bL bN o.code,v,bX o.al,bX o.la]/\Dk w v o.ph/\L=fp v
def rP (w:World) (l:aS) (cs:List Value) (L:List Nat):Prop:=∃ v,cs = [bO l.nm,v]/\pV 95 4 (Ie w) w v l.os L/\l.nm.size<=maxLen
def lW (w:World) (q:Nat->Prop) (r:dY) (cs:List Value) (L:List Nat):Prop:=∃ es v,cs=es ++ [bX r.soft,v]/\bY w q w.heap.size r.must es/\Dk w v r.ph/\L=fp v
def Ea (x:ItemD) (A1:Option Addr) (c1:Nat) (v2 v3:Value) (A4:Option Addr) (c4:Nat) (B1:Option Addr) (b1:Nat) (B2:Option Addr) (b2:Nat) (v9:Value) (A5:Option Addr) (c5:Nat):List Value:=
 [bL bN x.k,bO x.nm,bP A1 x.iff.length c1,v2,v3,bX x.sh,bP A4 x.cnt.length c4,bO x.over,bL bN x.ans.k,bL bN x.ans.lo,bL bN x.ans.hi,bL bN x.ans.pl,bO x.ans.ls,bP B1 x.ans.only.length b1,bX x.ans.sh,bP B2 x.ans.rs.length b2,bX x.ans.need,v9,bP A5 x.cmp.length c5]
structure uH (w:World) (q:Nat->Prop) (x:ItemD) (A1:Option Addr) (c1:Nat) (A4:Option Addr) (c4:Nat) (B1:Option Addr) (b1:Nat) (B2:Option Addr) (b2:Nat) (A5:Option Addr) (c5:Nat):Prop where
 h1:nX w q A1 x.iff
 h4:nX w q A4 x.cnt
 h5:nX w q A5 x.cmp
 g1:nX w q B1 x.ans.only
 g2:ik w q w.heap.size 1 B2 x.ans.rs.length (bK bN x.ans.rs)
 l1:x.iff.length<=c1
 l4:x.cnt.length<=c4
 l5:x.cmp.length<=c5
 m1:x.ans.only.length<=b1
 m2:x.ans.rs.length<=b2
 sz:x.nm.size<=maxLen/\x.over.size<=maxLen/\x.ans.ls.size<=maxLen/\x.iff.length<=maxLen/\x.cnt.length<=maxLen/\x.cmp.length<=maxLen/\x.ans.only.length<=maxLen/\x.ans.rs.length<=maxLen
inductive gq (w:World) (q:Nat->Prop):ItemD->List Value->List Nat->Prop
 | mk {x:ItemD} {A1:Option Addr} {c1:Nat} {v2:Value} {A3:Option Addr} {c3:Nat} {A4:Option Addr} {c4:Nat} {B1:Option Addr} {b1:Nat} {B2:Option Addr} {b2:Nat} {v9:Value} {A5:Option Addr} {c5:Nat} {xs:List Value} {Ls:List (List Nat)} {L9:List Nat}
   (hq:uH w q x A1 c1 A4 c4 B1 b1 B2 b2 A5 c5) (h2:Dk w v2 x.ph) (h9:pV 144 10 (lW w q) w v9 x.ans.ch L9)
   (hr:w.ownsRow 0 59 19 (bP A3 x.items.length c3) x.items.length xs) (hl:Ls.length=x.items.length) (hi:∀ i (h:i<x.items.length),gq w q x.items[i] ((xs.drop (i*19)).take 19) (Ls.getD i [])) :
   gq w q x (Ea x A1 c1 v2 (bP A3 x.items.length c3) A4 c4 B1 b1 B2 b2 v9 A5 c5) (fp v2 ++ L9 ++ (fp (bP A3 x.items.length c3) ++ Ls.flatten))
abbrev Ld (w:World) (q:Nat->Prop) (v:Value) (l:List ItemD) (L:List Nat):Prop:=pV 59 19 (gq w q) w v l L
section
variable {w w1:World} {q q':Nat->Prop}
theorem uH.keep {x:ItemD} {A1 A4 B1 B2 A5:Option Addr} {c1 c4 b1 b2 c5:Nat} (h:uH w q x A1 c1 A4 c4 B1 b1 B2 b2 A5 c5) (a:aK q w w1):uH w1 q x A1 c1 A4 c4 B1 b1 B2 b2 A5 c5:=
 ⟨h.h1.keep a,h.h4.keep a,h.h5.keep a,h.g1.keep a,(h.g2.keep a).up a.1,h.l1,h.l4,h.l5,h.m1,h.m2,h.sz⟩
theorem yJ {p:Nat->Prop} {size n:Nat} {A:Option Addr} {xs:List Value} (h:ik w p w.heap.size size A n xs) (b:∀ k,p k->k<w.heap.size->q k):ik w q w.heap.size size A n xs:=by
 refine⟨h.r,λ c ad e=>b _ (h.l c ad e) ?_⟩;obtain⟨d,a,f,-⟩:=h.r.2 c;rw[e] at a;injection a with a;rw[a];exact f
theorem uH.imp {x:ItemD} {A1 A4 B1 B2 A5:Option Addr} {c1 c4 b1 b2 c5:Nat} (h:uH w q x A1 c1 A4 c4 B1 b1 B2 b2 A5 c5) (a:∀ k,q k->k<w.heap.size->q' k):uH w q' x A1 c1 A4 c4 B1 b1 B2 b2 A5 c5:=
 ⟨h.h1.imp a,h.h4.imp a,h.h5.imp a,h.g1.imp a,yJ h.g2 a,h.l1,h.l4,h.l5,h.m1,h.m2,h.sz⟩
theorem bM {a:List (List Nat)} {i k:Nat} (h:k∈a.getD i []):k∈a.flatten:=by
 rw[cV] at h;cases hq:a[i]? with
 | none=>rw[hq] at h;cases h
 | some L=>rw[hq] at h;exact List.mem_flatten.2 ⟨L,List.mem_of_getElem? hq,h⟩
theorem pV.mono {α:Type} {T:TypeId} {n:Nat} {P P':α->List Value->List Nat->Prop} {v:Value} {l:List α} {L:List Nat} (h:pV T n P w v l L) (f:aK (λ k=>k∈L) w w1)
  (q:∀ a∈l,∀ cs M,P a cs M->(∀ k∈M,k∈L)->P' a cs M):pV T n P' w1 v l L:=by
 obtain⟨A,c,xs,m,o,j,p,g,b⟩:=h;refine⟨A,c,xs,m,o,jP j (f.imp λ k d=>by rw[b];exact cg _ d),p,λ i e=>q _ (b7 e) _ _ (g i e) λ k d=>?_,b⟩;rw[b];exact ck _ (bM d)
theorem Ie.keep {o:kN} {cs:List Value} {L:List Nat} (h:Ie w o cs L) (a:aK (λ k=>k∈L) w w1):Ie w1 o cs L:=by
 obtain⟨v,e,b,rfl⟩:=h;exact⟨v,e,b.keep a,rfl⟩
theorem rP.keep {o:aS} {cs:List Value} {L:List Nat} (h:rP w o cs L) (b:aK (λ k=>k∈L) w w1):rP w1 o cs L:=by
 obtain⟨v,e,g,d⟩:=h;exact⟨v,e,g.mono b (λ a _ cs M c f=>c.keep (b.imp f)),d⟩
theorem lW.keep {o:dY} {cs:List Value} {L:List Nat} (h:lW w q o cs L) (c:∀ k,q k->k<w.heap.size->q' k) (i:aK q w w1) (b:aK (λ k=>k∈L) w w1):lW w1 q' o cs L:=by
 obtain⟨j,v,e,f,d,rfl⟩:=h;exact⟨j,v,e,((((f.imp (q:=λ k=>q' k/\q k) λ k a g=>⟨c k a g,a⟩)).keep (i.imp λ _ a=>a.2)).up b.1).imp λ k a _=>a.1,d.keep b,rfl⟩
theorem uH.move {x:ItemD} {A1 A4 B1 B2 A5:Option Addr} {c1 c4 b1 b2 c5:Nat} (h:uH w q x A1 c1 A4 c4 B1 b1 B2 b2 A5 c5) (b:∀ k,q k->k<w.heap.size->q' k) (d:aK q w w1):uH w1 q' x A1 c1 A4 c4 B1 b1 B2 b2 A5 c5:=
 ((h.imp (q':=λ k=>q' k/\q k) λ k a c=>⟨b k a c,a⟩).keep (d.imp λ _ a=>a.2)).imp λ k a _=>a.1
theorem gq.keep {x:ItemD} {cs:List Value} {L:List Nat} (h:gq w q x cs L) (d:∀ k,q k->k<w.heap.size->q' k) (e:aK q w w1) (c:aK (λ k=>k∈L) w w1):gq w1 q' x cs L:=by
 induction h with
 | mk hq h2 h9 hr hl hi ih =>
  exact .mk (hq.move d e) (h2.keep (c.imp λ k b=>cg _ (cg _ b)))
   (h9.mono (c.imp λ k b=>cg _ (ck _ b)) λ a _ cs M f g=>f.keep d e (c.imp λ k b=>cg _ (ck _ (g k b))))
   (jP hr (c.imp λ k b=>ck _ (cg _ b))) hl
   (λ i h=>ih i h (c.imp λ k b=>ck _ (ck _ (bM b))))
theorem gq.inv {x:ItemD} {c:List Value} {M:List Nat} (h:gq w q x c M):∃ A1 c1 v2 A3 c3 A4 c4 B1 b1 B2 b2 v9 A5 c5 xs,∃ (a:List (List Nat)) (b:List Nat),c=Ea x A1 c1 v2 (bP A3 x.items.length c3) A4 c4 B1 b1 B2 b2 v9 A5 c5/\M=fp v2 ++ b ++ (fp (bP A3 x.items.length c3) ++ a.flatten)/\uH w q x A1 c1 A4 c4 B1 b1 B2 b2 A5 c5/\Dk w v2 x.ph/\pV 144 10 (lW w q) w v9 x.ans.ch b /\
  w.ownsRow 0 59 19 (bP A3 x.items.length c3) x.items.length xs/\a.length=x.items.length/\∀ i (h:i<x.items.length),gq w q x.items[i] ((xs.drop (i*19)).take 19) (a.getD i []):=by
 cases h with
 | mk hq h2 h9 hr hl hi=>exact⟨_,_,_,_,_,_,_,_,_,_,_,_,_,_,_,_,_,rfl,rfl,hq,h2,h9,hr,hl,hi⟩
theorem Ld.keep {v:Value} {l:List ItemD} {L:List Nat} (h:Ld w q v l L) (d:∀ k,q k->k<w.heap.size->q' k) (f:aK q w w1) (b:aK (λ k=>k∈L) w w1):Ld w1 q' v l L:=
 pV.mono h b λ a _ cs M c e=>c.keep d f (b.imp e)
theorem uu {n size:Nat} {A:Option Addr} {c:Nat} {e:TypeId} {xs:List Value} (h:w.ownsRow 0 e size (bP A n c) n xs):Reads w w.heap.size size A n xs/\n<=c/\n<=maxLen:=by
 refine⟨Reads.fB h,?_⟩;rcases h.2 with ⟨a,j⟩ | ⟨g,f,d,a,-,-,b,i,-⟩
 .subst j;exact⟨b9 _,b9 _⟩
 .injection a with h1' h2' h3';subst h3';exact⟨b,b4 b i⟩
theorem Dk.at_ {A:Option Addr} {c:Nat} {l:List ByteArray} (h:Dk w (bP A l.length c) l):kz w w.heap.size A c l:=by
 obtain⟨-,e,b⟩:=h;obtain⟨a,d,f⟩:=uu e;exact⟨a,d,f,b⟩
theorem pV.at_ {α:Type} {T:TypeId} {n:Nat} {P:α->List Value->List Nat->Prop} {Q:World->Nat->α->List Value->Prop} {A:Option Addr} {c:Nat} {l:List α} {L:List Nat} (h:pV T n P w (bP A l.length c) l L)
  (j:∀ a∈l,∀ cs M,P a cs M->Q w w.heap.size a cs):aF Q n w w.heap.size A l/\l.length<=c:=by
 obtain⟨A',c',xs,o,p,f,q,d,m⟩:=h;obtain⟨e,k,g⟩:=uu f;exact⟨⟨g,xs,e,λ i b=>j _ (b7 b) _ _ (d i b)⟩,k⟩
theorem pV.sl {α:Type} {T:TypeId} {n:Nat} {P:α->List Value->List Nat->Prop} {v:Value} {l:List α} {L:List Nat} (h:pV T n P w v l L):∃ A c,v = bP A l.length c:=by
 obtain⟨A,c,-,-,a,-⟩:=h;exact⟨A,c,a⟩
theorem Ie.at_ {o:kN} {cs:List Value} {L:List Nat} (h:Ie w o cs L):uY w w.heap.size o cs:=by
 obtain⟨v,e,a,-⟩:=h;obtain⟨A,c,rfl⟩:=a.1;exact⟨A,c,e,a.at_⟩
theorem rP.at_ {o:aS} {cs:List Value} {L:List Nat} (h:rP w o cs L):jI w w.heap.size o cs:=by
 obtain⟨v,e,a,f⟩:=h;obtain⟨A,c,rfl⟩:=a.sl;obtain⟨d,g⟩:=a.at_ (Q:=uY) λ _ _ _ _ b=>b.at_;exact⟨A,c,e,d,g,f⟩
theorem lW.at_ {o:dY} {cs:List Value} {L:List Nat} (h:lW w q o cs L):mG w w.heap.size o cs:=by
 obtain⟨d,v,e,b,a,-⟩:=h;obtain⟨A,c,rfl⟩:=a.1;exact⟨d,A,c,e,b.at_,a.at_⟩
theorem nX.at_ {A:Option Addr} {l:List Ex} (h:nX w q A l) (d:l.length<=maxLen):aF bC 8 w w.heap.size A l:=by
 obtain⟨cs,c,b⟩:=h;exact⟨d,cs,c.r,λ i a=>(b i a).at_⟩
theorem gq.at_ {x:ItemD} {cs:List Value} {L:List Nat} (h:gq w q x cs L):dW w w.heap.size x cs:=by
 induction h with
 | mk hq h2 h9 hr hl hi ih =>
  obtain⟨A2,c2,rfl⟩:=h2.1;obtain⟨m,n,rfl⟩:=h9.sl;obtain⟨s1,s2⟩:=h9.at_ (Q:=mG) λ _ _ _ _ c=>c.at_;obtain⟨d,k,g⟩:=uu hr;obtain⟨j,l,e,f,b,a,i,z8⟩:=hq.sz;exact .mk (hq.h1.at_ f) h2.at_ (hq.h4.at_ b) (hq.h5.at_ a) ⟨hq.g1.at_ i,hq.g2.r,s1,hq.m1,hq.m2,s2,z8,e⟩ hq.l1 k hq.l4 hq.l5 j l g d ih
end
end Go.Proofs.YtcnagconagpkcaaGreatDoor
