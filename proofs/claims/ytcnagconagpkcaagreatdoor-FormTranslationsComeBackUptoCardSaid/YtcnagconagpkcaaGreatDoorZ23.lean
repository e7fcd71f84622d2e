/- Lemmas. -/
import Derived.Test.YtcnagconagpkcaaGreatDoorZ22
open Go.Value renaming int->cS, string->cU, slice->cV, pointer->cW, bool->cX, slice->dy
open Go.IntKind renaming i64->cT
open Go.Ending renaming returned->cY
open List renaming mem_append_right->c0, mem_append_left->c6, nodup_append->c7, mem_append->db, getElem?_eq_some_iff->de, mem_cons->dl, length_set->dm, getElem?_drop->dp, append_assoc->dq, length_take->dr, getD_eq_getElem?_getD->ds, getElem?_take->dt, mem_cons_of_mem->dv, mem_singleton->dw, getElem_mem->dx, getElem?_eq_getElem->dz, Nodup->dN, pairwise_flatten->dT, getElem?_set_self->d6q, mem_cons_self->d7q, take_succ_eq_append_getElem->d8q, take_set->d9q, getElem_set->ed, length_cons->ee, length_append->eg, take_length->eh, not_mem_nil->ej, drop_set->ek, pairwise_iff_getElem->eo, getElem?_append_right->ep, set_append_right->es, nodup_cons->et, nodup_nil->ev, mem_of_getElem?->ey, set_getElem_self->ez, length_map->eB, set_set->eC
open Nat renaming le_refl->c8, zero_le->dj, le_trans->du, mul_le_mul_right->em, min_eq_left->eq, sub_self->er, lt_of_lt_of_le->eA
open And renaming intro->da
set_option maxHeartbeats 4000000
set_option maxRecDepth 100000
namespace Go.Proofs.YtcnagconagpkcaaGreatDoor
open Tryz
open Tryz renaming prog->lM
section
open Go.RowKit
attribute [local go_sem ↓] Go.wp_at_zero Go.wp_at_succ ld_item st_item
theorem xB.sets {α:Type} {T:TypeId} {n:Nat} {P:ElP α} (j:MvP P) {b g:Nat} {w w':World} {v:Value} {l:List α} {xs:List Value} (h:xB T n P b w v l xs) (c:aC g w w') (r:g<b):xB T n P b w' v l xs:=by
 obtain⟨p,o,Ls,q,m,d,e⟩:=h;have s:=c.size;exact⟨c.own p r,o,Ls,q,m,λ k a=>⟨(d k a).1,by have:=(d k a).2;omega⟩,λ i f=>j.mv (e i f) (λ k a _=>⟨a.1,by omega,a.2.2⟩) (c.stay λ k a=>by omega) (c.stay λ k a=>by have:=(d k (c0 _ (bM a))).1;omega)⟩
structure aeK (w:World) (q:Nat->Prop) (f:aI) (vl vs vi:Value) (Ll Ls Li:List Nat):Prop where
 la:Dk w vl f.ag
 ll:Ll=fp vl
 ls:pV 92 2 (rP w) w vs f.lists Ls
 it:Ld w q vi f.items Li
 nd:(Ll ++ Ls ++ Li).Nodup
 nm:f.nm.size<=maxLen
def OLP:ElP kN:=λ w _=>Ie w
def LLP:ElP aS:=λ w _=>rP w
theorem RX:MvP OLP:=agH
theorem Le:MvP LLP:=adI
theorem agM:(lM.info? 95).map (λ i=>(i.zero,i.size,i.bytes))=some (some (.agg #[.int .i64 0,.slice none 0 0,.bool false,.bool false]),4,40):=by kernel_rfl
theorem agN:(lM.info? 92).map (λ i=>(i.zero,i.size,i.bytes))=some (some (.agg #[.string ⟨#[]⟩,.slice none 0 0]),2,40):=by kernel_rfl
theorem aj7 {d:Func} {s:Tmp} {tmps:Array Value} {a:World} {g:Nat} {a0 a1 a2 a3 a4 k c1 c2 c3 c4:Value} {Q:Ending->World->Prop} (p:d.results = #[.cell s 26]) (o:tmps[s]?.getD undef = cW (some ⟨g,0,none⟩)) (B:ah a g 26 #[k,c1,c2,c3,c4]) (h:∀ W,aC g a W->Q (cY (.agg #[a0,a1,a2,a3,a4])) W) :
  bodyPost lM d Q Exit.ret { tmps:=tmps,defers:=[] } (((((a.setCell ⟨g,0,none⟩ a0).setCell ⟨g,1,none⟩ a1).setCell ⟨g,2,none⟩ a2).setCell ⟨g,3,none⟩ a3).setCell ⟨g,4,none⟩ a4):=by
 obtain⟨W,e,b,c⟩:∃ W,W=(((((a.setCell ⟨g,0,none⟩ a0).setCell ⟨g,1,none⟩ a1).setCell ⟨g,2,none⟩ a2).setCell ⟨g,3,none⟩ a3).setCell ⟨g,4,none⟩ a4)/\ah W g 26 #[a0,a1,a2,a3,a4]/\aC g a W:=⟨_,rfl,(((((B.bP 0 a0).bP 1 a1).bP 2 a2).bP 3 a3).bP 4 a4),(((((aC.refl g a).set 0 a0).set 1 a1).set 2 a2).set 3 a3).set 4 a4⟩;have f:=h W c;rw[<- e];clear e B c h;have j:W.cell? ⟨g,0,none⟩=some a0:=b.cell 0;have m:W.cell? ⟨g,1,none⟩=some a1:=b.cell 1;have l:W.cell? ⟨g,2,none⟩=some a2:=b.cell 2;have n:W.cell? ⟨g,3,none⟩=some a3:=b.cell 3;have i:W.cell? ⟨g,4,none⟩=some a4:=b.cell 4;exact bodyPost_ret (v:=.agg #[a0,a1,a2,a3,a4]) (by simp[results,p,go_sem,o,j,m,l,n,i]) rfl f
theorem aaS {w:World} {v0 v1 v2 v3 v5 v6 v7 v8 v9 v10 v11 v12 v13 v14 v15 v16 v17 v18:Value} {A:Option Addr} {n c:Nat}:(Instr.field 59 (.agg #[v0,v1,v2,v3,(cV A n c),v5,v6,v7,v8,v9,v10,v11,v12,v13,v14,v15,v16,v17,v18]) 4).run lM w = .ok (cV A n c) w:=by kernel_rfl
def GH (l:List ItemD):ItemD:=.mk 0 ⟨#[]⟩ [] [] l false [] ⟨#[]⟩ XW []
theorem adM {w:World} {B:Nat} {A:Option Addr} {c:Nat} {l:List ItemD} (h:wI w B A l) (e:l.length<=c):dW w B (GH l) [cS cT 0,cU ⟨#[]⟩,cV none 0 0,cV none 0 0,cV A l.length c,cX false,cV none 0 0,cU ⟨#[]⟩,cS cT 0,cS cT 0,cS cT 0,cS cT 0,cU ⟨#[]⟩,cV none 0 0,cX false,cV none 0 0,cX false,cV none 0 0,cV none 0 0]:=by
 obtain⟨d,cs,f,b⟩:=h;have a:∀ {α:Type} {P:World->Nat->α->List Value->Prop} {n:Nat},aF P n w B none ([]:List α):=⟨dj _,[],Reads.none_,λ i h=>by cases h⟩;exact dW.mk (x:=GH l) (A1:=none) (c1:=0) (A2:=none) (c2:=0) (A3:=A) (c3:=c) (A4:=none) (c4:=0) (A5:=none) (c5:=0) (B1:=none) (b1:=0) (B2:=none) (b2:=0) (B3:=none) (b3:=0) a (KZ _ _) a a ⟨a,Reads.none_,a,c8 _,c8 _,c8 _,dj _,dj _⟩ (c8 _) e (c8 _) (c8 _) (dj _) (dj _) d f b
theorem adN (l:List ItemD):(GH l).cu=Fp l+1:=by
 rw[Ud];show yD []+yD []+yD []+0+(yD []+0+0)+1+Fp l=_;simp only[yD];omega
def aox (w:World) (f:aI) (e:Ending) (w':World):Prop:=∃ vl vs vi Ll Ls Li,e = cY (.agg #[cU f.nm,cS cT f.jo,vl,vs,vi])/\(∃ A c,vl = cV A f.ag.length c)/\aeK w' (λ k=>w.heap.size<=k/\k<w'.heap.size/\k ∉ Ll ++ Ls ++ Li) f vl vs vi Ll Ls Li/\∀ k∈Ll ++ Ls ++ Li,w.heap.size<=k/\k<w'.heap.size
theorem RY {w:World} {B:Nat} {f:aI} {x:jS} (hf:jq w B f x) (hB:B<=w.heap.size) (Ul:Fp f.items<=1048574) (cN:f.ag.length<=1048576) (cI:f.lists.length<=1048576) (ck:∀ l∈f.lists,l.os.length<=1048576/\∀ o∈l.os,o.ph.length<=1048576) :
  Calls lM 26 #[.agg (BK f x)] w λ e w'=>aox w f e w'/\DD w w':=by
 have YF:=hf.ls;have F:=hf.la;have Q:=hf.it;have bh:=hf.nm;have a1:=hf.ii;obtain⟨AL,cl,AS,cs,AI,ci,AN,cn⟩:=x;dsimp only at YF F Q a1 ⊢;obtain⟨W1,aL,bp,K1⟩:=box w 26 #[cU f.nm,cS cT f.jo,cV AL f.ag.length cl,cV AS f.lists.length cs,cV AI f.items.length ci];obtain⟨W2,av,aZ,K2⟩:=box W1 26 #[cU ⟨#[]⟩,cS cT 0,cV none 0 0,cV none 0 0,cV none 0 0];have hz:W1.heap.size=w.heap.size+1:=by rw[aL];simp
 rw[hz] at K2;have cB:W2.heap.size=w.heap.size+2:=by rw[av];simp[hz]
 have Z:=bp.trans (aZ.mono (by omega));have B1:=K1.below aZ K1.lt;have q2:W2.cell? ⟨w.heap.size,2,none⟩=some (cV AL f.ag.length cl):=B1.cell 2;have KL:=qh (cloneS f.ag AL cl B W2 (F.1.below (Z.mono hB)) (by omega));have LX:=qh (da B1 K2);have HF:=qh (da YF (da F (da Q (da bh a1))));have cE:True:=trivial;clear bp aZ K1 K2 B1 hf YF F Q bh a1;go_enter func26,ntmps26;go_upto_region 1 with (fail);rw[<- aL,<- av];clear aL av hz;have f2:W2.frozen? ⟨w.heap.size,2,none⟩=false:=LX.o.1.frozen 2;go_upto_region 2 with (go_at_call 38;(with_reducible refine KL.o.mono ?_);rintro e3 w3 ⟨vl,rfl,E,N⟩;obtain⟨U,t,rfl⟩:=dX E;have Y:=LX.o.1.below N LX.o.1.lt;clear q2 f2;have q2:=Y.cell 2;have f2:=Y.frozen 2);have cQ:=N.size;have bq:=LX.o.2.below N LX.o.2.lt;have aq:=Z.trans (N.mono Z.size);obtain⟨C,qX,S,a0⟩:∃ W,W=w3.setCell ⟨w.heap.size,2,none⟩ (cV U f.ag.length t)/\aC w.heap.size w3 W/\ah W w.heap.size 26 #[cU f.nm,cS cT f.jo,cV U f.ag.length t,cV AS f.lists.length cs,cV AI f.items.length ci]:=⟨_,rfl,(aC.refl _ _).set 2 _,Y.bP 2 _⟩;rw[<- qX];have bb:=S.blk bq (by omega);have bB:=S.size;have bd:=qh (show Dk C (cV U f.ag.length t) f.ag/\∀ k∈fp (cV U f.ag.length t),w.heap.size+2<=k/\k<C.heap.size from
  ⟨⟨⟨_,_,rfl⟩,zK (S.own E (by omega)),HF.o.2.1.2.2.2⟩,λ k m=>by have:=E.lt k (dB.1 m);omega⟩)
 have zi:=aq.trans (S.below (c8 _));have cG:w.heap.size+2<=C.heap.size:=by omega
 clear bB;have aE:=qh (da a0 bb);have q3:C.cell? ⟨w.heap.size,3,none⟩=some (cV AS f.lists.length cs):=a0.cell 3;clear qX KL E N Y bq a0 bb S q2 f2 LX Z aq;obtain⟨j0,ch,bE,cw,ca⟩:=info_parts agM;obtain⟨i0,cx,cc,cf,cg⟩:=info_parts agN;obtain⟨vl,T⟩:∃ v:Value,v = cV U f.ag.length t:=⟨_,rfl⟩;rw[<- T] at bd aE;have b4:=qh T;clear T;go_wp2;clear q3;go_loopw [16,3] (λ i v wr=>∃ k:Nat,i = cS cT k/\k<=f.lists.length/\Hid (∃ xs,xB 92 2 LLP C.heap.size wr v (f.lists.take k) xs)/\DD C wr) (λ i _ _=>f.lists.length+1 - (intOf i).toNat)
 case atStart=>exact⟨0,rfl,dj _,qh ⟨[],xB.nil _ _⟩,Below.refl _ _⟩
 case round =>
  obtain⟨k,rfl,m,HO,J⟩:=hrel;obtain⟨r,rfl⟩:=aG (wr);obtain⟨xs,V⟩:=HO.o;have ba:=J.size;have RZ:=zi.trans (J.mono zi.size);have I:(f.lists.take k).length=k:=by rw[dr];omega
  obtain⟨Ao,co,bn⟩:=dX V.1;rw[I] at bn;subst bn;have WQ:=qh V;clear V HO;by_cases hlt:k<f.lists.length
  case pos =>
   obtain⟨ad,rc,rfl,aM,⟨A,c,rfl,aR,cu,bg⟩,b⟩:=aF.at_ (aF.keep (λ _ _ h=>h.keep (RZ.mono hB)) HF.o.1 (RZ.mono hB)) hlt;have jr:=qh (d8q hlt);have yM:=qh (ck _ (dx hlt));obtain⟨d,hd⟩:=af (f.lists[k]);rw[hd] at b aR cu bg jr yM;have p0:r.cell? (ad.add (k*2))=some (cU d.nm):=b 0 _ rfl;have p1:r.cell? ⟨(ad.add (k*2)).block,(ad.add (k*2)).off+1,none⟩=some (cV A d.os.length c):=b 1 _ rfl;obtain⟨W5,wV,bs,B5⟩:=box r 92 #[cU d.nm,cV A d.os.length c];obtain⟨W6,uN,bw,B6⟩:=box W5 92 #[cU d.nm,cV none 0 0];have aD:W5.heap.size=r.heap.size+1:=by rw[wV];simp
   have cp:W6.heap.size=r.heap.size+2:=by rw[uN];simp[aD]
   rw[aD] at B6;have q0:W5.cell? ⟨r.heap.size,0,none⟩=some (cU d.nm):=B5.cell 0;have q1:W6.cell? ⟨r.heap.size,1,none⟩=some (cV A d.os.length c):=(B5.below bw B5.lt).cell 1;have bo:=bs.trans (bw.mono bs.size);have aV:=qh hlt;have cv:=qh aR;have b7:=qh B6;have a6:=(WQ.o.later Le bo);have cL:=qh a6;have HK:=qh I;have cF:r.heap.size+2<=W6.heap.size:=by omega
   have cP:=yM.o.1;clear b aM hd aR B5 B6 a6 I;go_upto_region 6 with (fail);rw[<- wV];clear p0 p1 wV;go_upto_region 7 with (fail);rw[<- uN];clear q0 uN;go_upto_region 8 with (fail);clear q1 aD cp;go_loopw [26] (λ i wr=>∃ j:Nat,i = cS cT j/\j<=d.os.length/\Hid (∃ v ys,ah wr (r.heap.size+1) 92 #[cU d.nm,v]/\xB 95 4 OLP W6.heap.size wr v (d.os.take j) ys)/\Below (r.heap.size+1) W6 wr/\W6.heap.size<=wr.heap.size) (λ i _=>d.os.length+1 - (intOf i).toNat)
   case atStart=>exact⟨0,rfl,dj _,qh ⟨_,[],b7.o,xB.nil _ _⟩,Below.refl _ _,c8 _⟩
   case round =>
    obtain⟨j,rfl,hj,HP,a7,bX⟩:=hrel;obtain⟨wz,rfl⟩:=aG (wr);obtain⟨v,ys,B8,H⟩:=HP.o;have K:(d.os.take j).length=j:=by rw[dr];omega
    obtain⟨Aj,cj,bA⟩:=dX H.1;rw[K] at bA;subst bA;have Lh:DD r wz:=bo.trans (a7.mono (by omega));have yY:=RZ.trans (Lh.mono RZ.size);have H8:=qh (da B8 H);have g1:wz.cell? ⟨r.heap.size+1,1,none⟩=some (cV Aj j cj):=B8.cell 1;clear HP;by_cases hjlt:j<d.os.length
    case neg =>
     obtain rfl:j=d.os.length:=by omega
     rw[eh] at H;obtain⟨Lm,m1,m2,m3⟩:=H.made;have HM:=qh (show rQ LLP r.heap.size wz d [cU d.nm,cV Aj d.os.length cj] from ⟨Lm,⟨_,rfl,m1,bg⟩,m2,λ k m=>by have:=m3 k m;omega⟩);have g0:wz.cell? ⟨r.heap.size+1,0,none⟩=some (cU d.nm):=B8.cell 0;have RQ:wz.ownsRow C.heap.size 92 2 (cV Ao k co) k xs:=by
      have h:=aQ WQ.o.1 Lh;rw[HK.o] at h;exact h
     clear m1 m2 m3 H B8;go_wp2_with (at_builtin;refine wpList_append_lies _ rfl _ _ 23 rfl C.heap.size 92 i0 (.agg #[.string ⟨#[]⟩,.slice none 0 0]) 2 40 underlying23 cx cc cf cg rfl (by decide) _ _ _ rfl (RQ.alloc _) ⟨wz.heap.size,0,none⟩ 1 1 [.string d.nm,.slice Aj d.os.length cj] rfl rfl ?d1 ?d2 (by decide) ?d3 ?d4 ?d5 _ rfl ?_)
     case d1=>exact World.news_of_block (ah.new wz 92 _)
     case d2=>intro u hu;simp only[dl,ej,or_false] at hu;rcases hu with rfl | rfl <;> rfl
     case d3=>unfold maxLen;omega
     case d4=>omega
     case d5=>simp;omega
     intro g4 RN w4 s y lu z;have b6:=y.size;have sF:=qh (show xB 92 2 LLP C.heap.size w4 (cV (some ⟨g4,0,none⟩) (k+1) RN) (f.lists.take (k+1)) (xs ++ [cU d.nm,cV Aj d.os.length cj]) from by
      have I:=HK.o;have hp:=xB.push Le WQ.o (Lh.trans ((az wz (.cells #[cU d.nm,cV Aj d.os.length cj] 92 (0,0))).mono Lh.size)) (rQ.later Le HM.o (az wz _)) rfl (by rw[I];exact s) y (lu.imp id λ e=>by rw[e];simp) z ba;rw[I] at hp;rw[jr.o];exact hp)
     have gK:DD C w4:=(J.trans ((Lh.trans ((az wz (.cells #[cU d.nm,cV Aj d.os.length cj] 92 (0,0))).mono Lh.size)).mono ba)).grown y (by have:=Lh.size;simp;omega) (λ g hg=>(RQ.lt g hg).1);clear s y lu z RQ g0 g1
     (try go_wp2_with fail)
     go_roundw
     case rel=>exact⟨k+1,by go_num,aV.o,qh ⟨_,sF.o⟩,gK⟩
     case measure =>
      have:=aV.o;simp[intOf];omega
    obtain⟨ao,rc,rfl,aM,⟨A2,c2,rfl,oO⟩,b⟩:=aF.at_ (aF.keep (λ _ _ h=>h.keep (Lh.mono (du hB RZ.size))) cv.o (Lh.mono (du hB RZ.size))) hjlt;have bj:=qh (d8q hjlt);have bv:=yM.o.2 _ (dx hjlt);obtain⟨o,V⟩:=af (d.os[j]);rw[V] at b oO bj bv;have p0:wz.cell? (ao.add (j*4))=some (cS cT o.code):=b 0 _ rfl;have p1:wz.cell? ⟨(ao.add (j*4)).block,(ao.add (j*4)).off+1,none⟩=some (cV A2 o.ph.length c2):=b 1 _ rfl;have p2:wz.cell? ⟨(ao.add (j*4)).block,(ao.add (j*4)).off+2,none⟩=some (cX o.al):=b 2 _ rfl;have p3:wz.cell? ⟨(ao.add (j*4)).block,(ao.add (j*4)).off+3,none⟩=some (cX o.la):=b 3 _ rfl;obtain⟨W7,RP,X,B7⟩:=box wz 95 #[cS cT o.code,cV A2 o.ph.length c2,cX o.al,cX o.la];have cz:W7.heap.size=wz.heap.size+1:=by rw[RP];simp
    have KP:=qh (Gx o.ph A2 c2 B W7 (oO.keep (X.mono (du hB yY.size))) bv);have r1:W7.cell? ⟨wz.heap.size,1,none⟩=some (.slice A2 o.ph.length c2):=B7.cell 1;have a3:=qh B7;have HJ:=qh hjlt;have bk:=qh K;clear b V aM oO B7 hjlt K B8 H g1;go_upto_region 10 with (fail);rw[<- RP];clear p0 p1 p2 p3 RP;go_upto_region 11 with (go_at_call 61;(with_reducible refine KP.o.mono ?_);rintro e9 w9 ⟨⟨vp,rfl,ZZ,ar⟩,ag⟩;obtain⟨⟨R,P,rfl⟩,-⟩:=id ZZ;have ac:=a3.o.below ag a3.o.lt;have y1:=ac.cell 1;have f1:=ac.frozen 1;clear r1);obtain⟨W8,bi,ak,bc⟩:∃ W,W=w9.setCell ⟨wz.heap.size,1,none⟩ (.slice R o.ph.length P)/\aC wz.heap.size w9 W/\ah W wz.heap.size 95 #[.int .i64 o.code,.slice R o.ph.length P,.bool o.al,.bool o.la]:=⟨_,rfl,(aC.refl _ _).set 1 _,ac.bP 1 _⟩;rw[<- bi];have b5:=ak.size;have bx:=ag.size;have Si:DD wz W8:=(X.trans (ag.mono X.size)).trans (ak.below (c8 _));have ay:Dk W8 (.slice R o.ph.length P) o.ph:=ZZ.keep (ak.stay λ k m e=>by have:=ar k m;omega);have bm:rQ OLP wz.heap.size W8 o [.int .i64 o.code,.slice R o.ph.length P,.bool o.al,.bool o.la]:=⟨fp (.slice R o.ph.length P),⟨_,rfl,ay,rfl⟩,by unfold fp;cases (dy R o.ph.length P).ownBlock <;> simp,λ k m=>⟨by have:=ar k m;omega,(ay.2.1.lt k (dB.1 m)).2⟩⟩;have bN:=qh bm;have a4:=aQ H8.o.2.1 Si;rw[bk.o] at a4;have ax:=qh a4;have be:=H8.o.1.lt;have a2:=H8.o.1.below Si be;have g1:W8.cell? ⟨r.heap.size+1,1,none⟩=some (.slice Aj j cj):=a2.cell 1;obtain⟨y0,y1,y2,y3⟩:=ah.c4 bc;have b1:=qh a2;have cR:=Si.size;clear bi f1 ac ZZ ar ay bm a4 bc a2 KP a3 X ag ak b5 cz bx;go_wp2_with (at_builtin;refine wpList_append_lies _ rfl _ _ 90 rfl W6.heap.size 95 j0 (.agg #[.int .i64 0,.slice none 0 0,.bool false,.bool false]) 4 40 underlying90 ch bE cw ca rfl (by decide) _ _ _ rfl (ax.o.alloc _) ⟨W8.heap.size,0,none⟩ 1 1 [.int .i64 o.code,.slice R o.ph.length P,.bool o.al,.bool o.la] rfl rfl ?c1 ?c2 (by decide) ?c3 ?c4 ?c5 _ rfl ?_)
    case c1=>exact World.news_of_block (ah.new W8 95 _)
    case c2=>intro u hu;simp only[dl,ej,or_false] at hu;rcases hu with rfl | rfl | rfl | rfl <;> rfl
    case c3=>unfold maxLen;have:=yM.o.1;omega
    case c4=>have:=yM.o.1;omega
    case c5=>simp;omega
    intro g4 RN w4 s y lu z;have b6:=y.size;have sF:=qh (show xB 95 4 OLP W6.heap.size w4 (cV (some ⟨g4,0,none⟩) (j+1) RN) (d.os.take (j+1)) (ys ++ [cS cT o.code,cV R o.ph.length P,cX o.al,cX o.la]) from by
     have K:=bk.o;have hp:=xB.push RX H8.o.2 (Si.trans ((az W8 (.cells #[cS cT o.code,cV R o.ph.length P,cX o.al,cX o.la] 95 (0,0))).mono Si.size)) (rQ.later RX bN.o (az W8 _)) rfl (by rw[K];exact s) y (lu.imp id λ e=>by rw[e];simp) z bX;rw[K] at hp;rw[bj.o];exact hp)
    have aa:=(b1.o.alloc (.cells #[cS cT o.code,cV R o.ph.length P,cX o.al,cX o.la] 95 (0,0))).grown y (λ e=>by have:=(ax.o.lt _ e.symm).1;omega);have g1:=aa.cell 1;have cK:=aa.frozen 1;have Qq:Below (r.heap.size+1) W6 w4:=(a7.trans ((Si.trans ((az W8 (.cells #[cS cT o.code,cV R o.ph.length P,cX o.al,cX o.la] 95 (0,0))).mono Si.size)).mono (by omega))).grown y (by simp;omega) (λ g hg=>by have:=(ax.o.lt g hg).1;omega);have cq:=qh aa;clear s y lu z aa y0 y1 y2 y3
    (try go_wp2_with fail)
    go_roundw
    case rel =>
     exact⟨j+1,by go_num,HJ.o,qh ⟨_,_,cq.o.bP 1 _,sF.o.sets RX ((aC.refl (r.heap.size+1) _).set 1 _) (by omega)⟩,Qq.trans (((aC.refl (r.heap.size+1) _).set 1 _).below (c8 _)),by rw[show ∀ (W:World) p u,(W.setCell p u).heap.size=W.heap.size from λ W p u=>by simp];have:=Qq.size;omega⟩
    case measure =>
     have:=HJ.o;simp[intOf];omega
  case neg =>
   obtain rfl:k=f.lists.length:=by omega
   have B1:=aE.o.1.below J (by omega);have B2:=aE.o.2.below J (by omega);have q3:r.cell? ⟨w.heap.size,3,none⟩=some (cV AS f.lists.length cs):=B1.cell 3;have y3:r.frozen? ⟨w.heap.size,3,none⟩=false:=B1.frozen 3;have V:=WQ.o;rw[eh] at V;obtain⟨Ls,br,bf,E⟩:=V.made;have b3:=qh (da br (da bf E));clear V br bf E WQ;go_upto_region 16 with (fail);obtain⟨RU,a8,Gy,B1⟩:∃ W,W=r.setCell ⟨w.heap.size,3,none⟩ (cV Ao f.lists.length co)/\aC w.heap.size r W/\ah W w.heap.size 26 #[cU f.nm,cS cT f.jo,vl,cV Ao f.lists.length co,cV AI f.items.length ci]:=⟨_,rfl,(aC.refl _ _).set 3 _,B1.bP 3 _⟩;rw[<- a8];have B2:=Gy.blk B2 (by omega);have X:=RZ.trans (Gy.below (c8 _));have cJ:r.heap.size<=RU.heap.size/\RU.heap.size<=r.heap.size:=by rw[Gy.size];exact⟨c8 _,c8 _⟩
   have bS:=qh Gy;have q4:RU.cell? ⟨w.heap.size,4,none⟩=some (cV AI f.items.length ci):=B1.cell 4;have KI:=qh (Gz (GH f.items) RU B _ (adM (HF.o.2.2.1.keep (λ _ _ h=>h.keep (X.mono hB)) (X.mono hB)) HF.o.2.2.2.2) (du hB X.size) (by rw[adN];omega));have an:=qh (da B1 B2);clear a8 q3 y3 B1 B2 Gy;go_upto_region 17 with (go_at_call 37;(with_reducible refine KI.o.mono ?_);rintro e9 w9 ⟨⟨dd,rfl,bR,bP,M,hM,a9,a5⟩,gK⟩;clear q4;have ae:=an.o.1.below gK an.o.1.lt;have q4:=ae.cell 4;have y4:=ae.frozen 4;obtain⟨A1,c1,v2,A3,c3,A4,c4,D1,d1,D2,d2,v9,A5,c5,xs,Lx,L9,rfl,rfl,hq,h2,h9,hr,hl,hi⟩:=hM.inv;clear hM;dsimp only[Ea];have cD:=λ (v0 v1 v2 v3 v5 v6 v7 v8 v9 v10 v11 v12 v13 v14 v15 v16 v17 v18:Value) (A:Option Addr) (n c:Nat)=>aaS (w:=w9) (v0:=v0) (v1:=v1) (v2:=v2) (v3:=v3) (v5:=v5) (v6:=v6) (v7:=v7) (v8:=v8) (v9:=v9) (v10:=v10) (v11:=v11) (v12:=v12) (v13:=v13) (v14:=v14) (v15:=v15) (v16:=v16) (v17:=v17) (v18:=v18) (A:=A) (n:=n) (c:=c));have T:=b4.o;subst T;obtain⟨Dz,bt,al,D⟩:∃ W,W=w9.setCell ⟨w.heap.size,4,none⟩ (cV A3 (GH f.items).items.length c3)/\aC w.heap.size w9 W/\ah W w.heap.size 26 #[cU f.nm,cS cT f.jo,cV U f.ag.length t,cV Ao f.lists.length co,cV A3 (GH f.items).items.length c3]:=⟨_,rfl,(aC.refl _ _).set 4 _,ae.bP 4 _⟩;rw[<- bt];have L:=al.blk (an.o.2.below gK an.o.2.lt) (by omega);have cb:=qh (da D L);have q0:Dz.cell? ⟨w.heap.size,0,none⟩=some (cU f.nm):=D.cell 0;have q1:Dz.cell? ⟨w.heap.size,1,none⟩=some (cS cT f.jo):=D.cell 1;have q2:Dz.cell? ⟨w.heap.size,2,none⟩=some (cV U f.ag.length t):=D.cell 2;have q3:Dz.cell? ⟨w.heap.size,3,none⟩=some (cV Ao f.lists.length co):=D.cell 3;have q4:Dz.cell? ⟨w.heap.size,4,none⟩=some (cV A3 (GH f.items).items.length c3):=D.cell 4;have z0:=L.frozen 0;have z1:=L.frozen 1;have z2:=L.frozen 2;have z3:=L.frozen 3;have z4:=L.frozen 4;have y0:=L.cell 0;have y1:=L.cell 1;have y2:=L.cell 2;have y3:=L.cell 3;have y4:=L.cell 4;have bL:=qh (da hr (da hl (da hi (da a9 a5))));have b9:DD w Dz:=(X.trans (gK.mono X.size)).trans (al.below (c8 _));have bl:=qh al;have cA:=gK.size;clear bt ae D L hq h2 h9 hr hl hi a9 a5 bR bP al KI;go_wp2;refine aj7 rfl rfl cb.o.2 λ W hS=>?_;have cM:=hS.size;have cH:=bl.o.size;obtain⟨b0,b2,ce⟩:=b3.o;obtain⟨i1,i2,i3,i4,i5⟩:=bL.o;have ei:(GH f.items).items=f.items:=rfl;have ap:aK (λ k=>w.heap.size+2<=k) w9 W:=⟨by omega,λ k m _=>(hS.far k (by omega)).trans (bl.o.far k (by omega))⟩;have ab:aK (λ k=>w.heap.size+2<=k) r W:=⟨by omega,λ k m hl=>(ap.2 k m (by omega)).trans ((gK.block k (by omega)).trans (bS.o.far k (by omega)))⟩;have ct:aK (λ k=>w.heap.size+2<=k) C W:=⟨by omega,λ k m hl=>(ab.2 k m (by omega)).trans (J.block k hl)⟩;have bz:=bd.o;have O:∀ k∈fp (cV U f.ag.length t),w.heap.size+2<=k/\k<C.heap.size:=bz.2;have G:∀ k∈Ls,C.heap.size<=k/\k<r.heap.size:=ce;have am:∀ k∈fp (dy A3 (GH f.items).items.length c3) ++ Lx.flatten,r.heap.size<=k/\k<w9.heap.size:=λ k m=>by have:=i5 k (c0 _ m);omega
   refine⟨⟨_,_,cV A3 (GH f.items).items.length c3,fp (cV U f.ag.length t),Ls,fp (cV A3 (GH f.items).items.length c3) ++ Lx.flatten,rfl,⟨_,_,rfl⟩,⟨bz.1.keep (ct.imp λ k m=>(O k m).1),rfl,pV.mono b0 (ab.imp λ k m=>by have:=G k m;omega) λ a _ cs M hm hs=>Le.mv (q':=λ _=>True) hm (λ _ _ _=>trivial) (ab.imp λ k m=>by omega) (ab.imp λ k m=>by have:=G k (hs k m);omega),?_,?_,HF.o.2.2.2.1⟩,?_⟩,b9.trans (hS.below (by omega))⟩
   .refine⟨A3,c3,xs,Lx,rfl,jP i1 (ap.imp λ k m=>by have:=am k (c6 _ m);omega),i2,λ i cr=>xg.mv (i3 i cr) (λ k m cC=>⟨by omega,by omega,λ bO=>?_⟩) (ap.imp λ k m=>by omega) (ap.imp λ k m=>by have:=am k (c0 _ (bM m));omega),rfl⟩;rcases db.1 bO with q | q
    .rcases db.1 q with q | q
     .have:=O k q;omega
     .have:=G k q;omega
    .exact m.2.2 (c0 _ q)
   .rw[c7,c7];refine⟨⟨?_,b2,λ k m k' aw e=>?_⟩,(c7.1 i4).2.1,λ k m k' aw e=>?_⟩
    .unfold fp;cases (dy U f.ag.length t).ownBlock <;> simp
    .have:=O k m;have:=G k' aw;omega
    .have:=am k' aw;rcases db.1 m with q | q
     .have:=O k q;omega
     .have:=G k q;omega
   .intro k m;rcases db.1 m with q | q
    .rcases db.1 q with q | q
     .have:=O k q;omega
     .have:=G k q;omega
    .have:=am k q;omega
end
section
open Go.RowKit
attribute [local go_sem ↓] Go.wp_at_zero Go.wp_at_succ
structure OwN {α:Type} (T:TypeId) (n:Nat) (P:α->List Value->List Nat->Prop) (w:World) (v:Value) (l:List α) (L:List Nat):Prop where
 of:pV T n P w v l L
 nd:L.Nodup
 lt:∀ k∈L,k<w.heap.size
structure KpP {α:Type} (q:Nat->Prop) (P:World->α->List Value->List Nat->Prop):Prop where
 kp:∀ {w w':World} {a:α} {cs:List Value} {M:List Nat},P w a cs M->aK q w w'->aK (λ k=>k∈M) w w'->P w' a cs M
theorem adS (q:Nat->Prop):KpP q (λ w=>lW w q):=⟨λ h c a=>h.keep (λ _ b _=>b) c a⟩
theorem Ur (q:Nat->Prop):KpP q (λ w=>gq w q):=⟨λ h c a=>h.keep (λ _ b _=>b) c a⟩
theorem agQ (q:Nat->Prop):KpP q Ie:=⟨λ h _ a=>h.keep a⟩
theorem adT (q:Nat->Prop):KpP q rP:=⟨λ h _ a=>h.keep a⟩
theorem WR {xs:List Value} {i j n i':Nat} {u:Value} (a:j<n):((xs.set (i*n+j) u).drop (i'*n)).take n=if i'=i then ((xs.drop (i*n)).take n).set j u else (xs.drop (i'*n)).take n:=by
 by_cases e:i'=i
 .subst e;rw[if_pos rfl,ek,if_neg (by omega),d9q,Nat.add_sub_cancel_left]
 .rw[if_neg e,ek];by_cases hlt:i*n+j<i'*n
  .rw[if_pos hlt]
  .rw[if_neg hlt,d9q,List.set_eq_of_length_le];rw[dr];have:i'<i:=by
    rcases Nat.lt_or_ge i' i with h | h
    .exact h
    .have:i+1<=i':=by omega
     have:=em n this;rw[Nat.add_mul,Nat.one_mul] at this;omega
   have:=em n this;rw[Nat.succ_mul] at this;omega
theorem GI {Ls:List (List Nat)} {i k:Nat} {M:List Nat} (h:k∈(Ls.set i M).flatten):k∈M\/∃ j,j≠i/\k∈Ls.getD j []:=by
 obtain⟨L,c,a⟩:=List.mem_flatten.1 h;obtain⟨j,b,rfl⟩:=List.getElem_of_mem c;rw[ed] at a;by_cases e:i=j
 .rw[if_pos e] at a;exact .inl a
 .rw[if_neg e] at a;rw[dm] at b;exact .inr ⟨j,λ q=>e q.symm,by rw[ds,dz b];exact a⟩
theorem yK {Ls:List (List Nat)} (h:Ls.flatten.Nodup) {i j k:Nat} (c:k∈Ls.getD i []) (d:k∈Ls.getD j []):i=j:=by
 unfold dN at h;rw[dT] at h;have key:∀ i j,i<j->k∈Ls.getD i []->k∈Ls.getD j []->False:=by
  intro i j f c d;rw[ds] at c d;cases q1:Ls[i]? with
  | none=>rw[q1] at c;cases c
  | some a =>
   cases q2:Ls[j]? with
   | none=>rw[q2] at d;cases d
   | some b =>
    rw[q1] at c;rw[q2] at d;obtain⟨n,g⟩:=de.1 q1;obtain⟨l,m⟩:=de.1 q2;have:=(eo.1 h.2) i j n l f;rw[g,m] at this;exact this k c k d rfl
 rcases Nat.lt_trichotomy i j with e | e | e
 .exact (key i j e c d).elim
 .exact e
 .exact (key j i e d c).elim
theorem GK {Ls:List (List Nat)} (h:Ls.flatten.Nodup) {i:Nat} {M:List Nat} (p:M.Nodup) (m:∀ k∈M,∀ j,j≠i->k ∉ Ls.getD j []):(Ls.set i M).flatten.Nodup:=by
 have s:=h;unfold dN at h ⊢;rw[dT] at h ⊢;have l:∀ j (n:j<Ls.length),Ls[j]=Ls.getD j []:=λ j n=>by rw[ds,dz n];rfl
 refine⟨λ L r=>?_,eo.2 λ a b f c o x g y d e=>?_⟩
 .rcases List.mem_or_eq_of_mem_set r with q | q
  .exact h.1 L q
  .rw[q];exact p
 .subst e;rw[dm] at f c;rw[ed] at g d;by_cases ea:i=a
  .rw[if_pos ea] at g;rw[if_neg (by omega)] at d;exact m x g b (by omega) (by rw[<- l b c];exact d)
  .rw[if_neg ea] at g;by_cases eb:i=b
   .rw[if_pos eb] at d;exact m x d a (by omega) (by rw[<- l a f];exact g)
   .rw[if_neg eb] at d;have:=yK s (i:=a) (j:=b) (by rw[<- l a f];exact g) (by rw[<- l b c];exact d);omega
theorem pV.upd {α:Type} {T:TypeId} {n:Nat} {q:Nat->Prop} {P:World->α->List Value->List Nat->Prop} (G:KpP q P) {w w':World} {v:Value} {l:List α} {A:Option Addr} {c:Nat} {xs:List Value} {Ls:List (List Nat)} (E:v = cV A l.length c) (K:Ls.length=l.length)
  (F:∀ i (h:i<l.length),P w l[i] ((xs.drop (i*n)).take n) (Ls.getD i [])) (p:(fp v ++ Ls.flatten).Nodup) (C:∀ k∈fp v ++ Ls.flatten,¬ q k) (f:∀ k∈fp v ++ Ls.flatten,k<w.heap.size) {i:Nat} (M:i<l.length) {a':α} {M':List Nat} {j:Nat} {u:Value} (I:j<n)
  (z:Off (fp v ++ Ls.getD i []) w w') (t:w'.ownsRow 0 T n v l.length (xs.set (i*n+j) u)) (J:P w' a' (((xs.drop (i*n)).take n).set j u) M') (H:M'.Nodup) (g:∀ k∈M',(k∈Ls.getD i []\/w.heap.size<=k)/\k<w'.heap.size) :
  ∃ L',OwN T n (P w') w' v (l.set i a') L'/\(∀ k∈L',k∈fp v ++ Ls.flatten\/w.heap.size<=k):=by
 have b:=(c7.1 p).2.2;have m:=(c7.1 p).2.1;have L:aK q w w':=z.stay λ k a o=>by
  rcases db.1 o with h | h
  .exact C k (c6 _ h) a
  .exact C k (c0 _ (bM h)) a
 have B:∀ k∈M',∀ r,r≠i->k ∉ Ls.getD r []:=λ k a r y h=>by
  rcases (g k a).1 with d | d
  .exact y (yK m h d)
  .have:=f k (c0 _ (bM h));omega
 refine⟨fp v ++ (Ls.set i M').flatten,⟨⟨A,c,xs.set (i*n+j) u,Ls.set i M',by rw[dm];exact E,by rw[dm];exact t,by rw[dm,dm];exact K,λ D s=>?_,rfl⟩,?_,λ k a=>?_⟩,λ k a=>?_⟩
 .rw[dm] at s;rw[WR I,ed];by_cases e:i=D
  .subst e;rw[if_pos rfl,if_pos rfl,ds,d6q (by omega)];exact J
  .rw[if_neg e,if_neg (λ q=>e q.symm),ds,List.getElem?_set_ne e,<- ds];refine G.kp (F D s) L (z.stay λ k a o=>?_);rcases db.1 o with h | h
   .exact b k h k (bM a) rfl
   .exact e (yK m h a)
 .rw[c7];refine⟨(c7.1 p).1,GK m H B,λ k a N x e=>?_⟩;subst e;rcases GI x with h | ⟨r,-,h⟩
  .rcases (g k h).1 with d | d
   .exact b k a k (bM d) rfl
   .have:=f k (c6 _ a);omega
  .exact b k a k (bM h) rfl
 .have O:=z.size;rcases db.1 a with h | h
  .have:=f k (c6 _ h);omega
  .rcases GI h with h | ⟨r,-,h⟩
   .exact (g k h).2
   .have:=f k (c0 _ (bM h));omega
 .rcases db.1 a with h | h
  .exact .inl (c6 _ h)
  .rcases GI h with h | ⟨r,-,h⟩
   .rcases (g k h).1 with d | d
    .exact .inl (c0 _ (bM d))
    .exact .inr d
   .exact .inl (c0 _ (bM h))
theorem pV.put {α:Type} {T:TypeId} {n:Nat} {q:Nat->Prop} {P:World->α->List Value->List Nat->Prop} (x:KpP q P) {w w':World} {l:List α} {b c:Nat} {xs:List Value} {Ls:List (List Nat)} (K:Ls.length=l.length) (a:w.ownsRow 0 T n (cV (some ⟨b,0,none⟩) l.length c) l.length xs)
  (v:∀ i (h:i<l.length),P w l[i] ((xs.drop (i*n)).take n) (Ls.getD i [])) (o:(fp (cV (some ⟨b,0,none⟩) l.length c) ++ Ls.flatten).Nodup) (t:∀ k∈fp (cV (some ⟨b,0,none⟩) l.length c) ++ Ls.flatten,¬ q k) (p:∀ k∈fp (cV (some ⟨b,0,none⟩) l.length c) ++ Ls.flatten,k<w.heap.size)
  {i:Nat} (s:i<l.length) {j:Nat} (D:j<n) {u m:Value} {ph:List ByteArray} (B:∀ k∈fp u,k∈Ls.getD i []) (d:PE w w' b (i*n+j) u ph m) {a':α} {M':List Nat} (H:P w' a' (((xs.drop (i*n)).take n).set j m) M') (z:M'.Nodup) (r:∀ k∈M',(k∈Ls.getD i []\/w.heap.size<=k)/\k<w'.heap.size) :
  ∃ L',OwN T n (P w') w' (cV (some ⟨b,0,none⟩) l.length c) (l.set i a') L'/\(∀ k∈L',k∈fp (cV (some ⟨b,0,none⟩) l.length c) ++ Ls.flatten\/w.heap.size<=k):=by
 refine pV.upd x rfl K v o t p s D (d.RS.more λ k J=>.inl ?_) ?_ H z r
 .rcases dl.1 J with h | h
  .rw[h];exact c6 _ (dB.2 rfl)
  .exact c0 _ (B k h)
 .refine⟨by rw[dm];exact a.1,.inr ?_⟩;rcases a.2 with ⟨h,-⟩ | ⟨g,cap,f,h,I,G,C,A,F,y⟩
  .cases h
  .have e:b=g:=by injection h with h;injection h with h;injection h with h
   have E:c=cap:=by injection h
   subst e E;exact⟨b,c,f.setIfInBounds (i*n+j) m,rfl,I,d.blk _ _ G,C,A,by simpa using F,by rw[Array.toList_setIfInBounds,<- y,d9q]⟩
theorem rU (pl:Nat) (t:Ic):∀ l:List ItemD,lq pl t l=l.map (KD pl t)
 | []=>rfl
 | a :: r=>by rw[lq,rU pl t r,List.map_cons]
theorem GL (pl:Nat) (t:Ic) (nm:ByteArray):∀ (l:List dY) (k i:Nat) (h:i<l.length),(Dy pl t nm k l)[i]?=some { l[i] with ph:=oI pl (t (uq nm (k+i))) l[i].ph }
 | a :: r,k,0,h=>rfl
 | a :: r,k,i+1,h=>by
  rw[Dy];have:=GL pl t nm r (k+1) i (by simpa using h);rw[show k+1+i=k+(i+1) by omega] at this;simpa using this
theorem zM (pl:Nat) (t:Ic) (nm:ByteArray):∀ (l:List dY) (k:Nat),(Dy pl t nm k l).length=l.length
 | [],_=>rfl
 | a :: r,k=>by rw[Dy,ee,zM,ee]
def jQ {α:Type} (l' l:List α) (k:Nat):List α:=l'.take k ++ l.drop k
theorem zN {α:Type} {a l:List α} (h:a.length=l.length) {k:Nat} (b:k<=l.length):(jQ a l k).length=l.length:=by unfold jQ;rw[eg,dr,List.length_drop];omega
theorem xh {α:Type} (a l:List α):jQ a l 0=l:=by unfold jQ;simp
theorem zO {α:Type} {l' l:List α} (h:l'.length=l.length):jQ l' l l.length=l':=by unfold jQ;rw[List.drop_length,List.append_nil,List.take_of_length_le (by omega)]
theorem zQ {α:Type} {a l:List α} (h:a.length=l.length) {k:Nat} (b:k<l.length):(jQ a l k)[k]?=some l[k]:=by
 unfold jQ;rw[ep (by rw[dr];omega),dr,eq (by omega),er,dp,Nat.add_zero,dz b]
theorem zS {α:Type} {b l:List α} (h:b.length=l.length) {k:Nat} (d:k<l.length) {a:α} (f:b[k]?=some a):(jQ b l k).set k a=jQ b l (k+1):=by
 obtain⟨c,e⟩:=de.1 f;unfold jQ;rw[es _ _ (by rw[dr];omega),dr,eq (by omega),er,List.drop_eq_getElem_cons d,List.set_cons_zero,d8q c,e,dq];rfl
inductive Sj (pl:Nat):ItemD->Prop
 | mk {x:ItemD} (hn:x.nm.size<=1000) (hp:(x.ph≠[]->pl<=x.ph.length)/\x.ph.length<=1000000) (hc:x.ans.ch.length<=1000/\∀ r∈x.ans.ch,(r.ph≠[]->pl<=r.ph.length)/\r.ph.length<=1000000) (hl:x.items.length<=1048576) (hi:∀ y∈x.items,Sj pl y):Sj pl x
def ItemD.wPh (x:ItemD) (p:List ByteArray):ItemD:=.mk x.k x.nm x.iff p x.items x.sh x.cnt x.over x.ans x.cmp
def ItemD.GM (x:ItemD) (ch:List dY):ItemD:=.mk x.k x.nm x.iff x.ph x.items x.sh x.cnt x.over { x.ans with ch:=ch } x.cmp
def ItemD.wIt (x:ItemD) (l:List ItemD):ItemD:=.mk x.k x.nm x.iff x.ph l x.sh x.cnt x.over x.ans x.cmp
theorem Us (pl:Nat) (t:Ic) (x:ItemD):KD pl t x=((x.wPh (oI pl (t x.nm) x.ph)).GM (Dy pl t x.nm 0 x.ans.ch)).wIt (lq pl t x.items):=by cases x;rw[KD];rfl
structure Ah (w:World) (q:Nat->Prop) (A:Option Addr) (n c:Nat) (L:List Nat) (W:World) (lst:List ItemD):Prop where
 ex:∃ Lk,OwN 59 19 (gq W q) W (cV A n c) lst Lk/\∀ k∈Lk,k∈L\/w.heap.size<=k
 off:Off L w W
 hq:(∀ k∈L,¬ q k)/\∀ k,q k->k<w.heap.size
section
variable {w W:World} {q:Nat->Prop} {A:Option Addr} {n c:Nat} {L:List Nat} {lst:List ItemD}
theorem Ah.nq (h:Ah w q A n c L W lst) {b:List Nat} (f:∀ k∈b,k∈L\/w.heap.size<=k):∀ k∈b,¬ q k:=λ k d a=>by
 rcases f k d with e | e
 .exact h.hq.1 k e a
 .have:=h.hq.2 k a;omega
structure Ig (w:World) (q:Nat->Prop) (b n c:Nat) (L:List Nat) (W:World) (lst:List ItemD) (k:Nat) (x:ItemD) (xs:List Value) (Ls:List (List Nat)) (A1:Option Addr) (c1:Nat) (v2:Value) (A3:Option Addr) (c3:Nat) (A4:Option Addr) (c4:Nat) (B1:Option Addr) (b1:Nat) (B2:Option Addr) (b2:Nat) (v9:Value) (A5:Option Addr) (c5:Nat) (ys:List Value) (Lx:List (List Nat)) (L9:List Nat):Prop where
 hn:lst.length=n
 own:W.ownsRow 0 59 19 (cV (some ⟨b,0,none⟩) n c) n xs
 len:Ls.length=lst.length
 el:∀ i (h:i<lst.length),gq W q lst[i] ((xs.drop (i*19)).take 19) (Ls.getD i [])
 nd:(b :: Ls.flatten).Nodup
 lt:∀ j∈b :: Ls.flatten,j<W.heap.size
 hL:∀ j∈b :: Ls.flatten,j∈L\/w.heap.size<=j
 cs:(xs.drop (k*19)).take 19=Ea x A1 c1 v2 (cV A3 x.items.length c3) A4 c4 B1 b1 B2 b2 v9 A5 c5
 M:Ls.getD k []=fp v2 ++ L9 ++ (fp (cV A3 x.items.length c3) ++ Lx.flatten)
 q_:uH W q x A1 c1 A4 c4 B1 b1 B2 b2 A5 c5
 h2:Dk W v2 x.ph
 h9:pV 144 10 (lW W q) W v9 x.ans.ch L9
 hr:W.ownsRow 0 59 19 (cV A3 x.items.length c3) x.items.length ys
 hl:Lx.length=x.items.length
 hi:∀ i (h:i<x.items.length),gq W q x.items[i] ((ys.drop (i*19)).take 19) (Lx.getD i [])
theorem Ah.open_ (h:Ah w q A n c L W lst) {k:Nat} {x:ItemD} (y:lst[k]?=some x):∃ b xs Ls A1 c1 v2 A3 c3 A4 c4 B1 b1 B2 b2 v9 A5 c5 ys Lx L9,A=some ⟨b,0,none⟩/\Ig w q b n c L W lst k x xs Ls A1 c1 v2 A3 c3 A4 c4 B1 b1 B2 b2 v9 A5 c5 ys Lx L9:=by
 obtain⟨E,⟨⟨A',c',xs,Ls,a,i,e3,d,f⟩,nd,l⟩,j⟩:=h.ex;obtain⟨D,rfl⟩:=de.1 y;injection a with a en ec;subst a en ec;obtain⟨b,rfl⟩:∃ b,A=some ⟨b,0,none⟩:=by
  rcases i.2 with ⟨-,e⟩ | ⟨g,u,m,e,-⟩
  .omega
  .injection e with e;exact⟨g,e⟩
 have s:fp (cV (some ⟨b,0,none⟩) lst.length c) = [b]:=rfl;rw[s] at f;rw[f] at nd l j;obtain⟨A1,c1,v2,A3,c3,A4,c4,B1,b1,B2,b2,v9,A5,c5,ys,Lx,L9,p,C,B,z,r,v,t,o⟩:=(d k D).inv;exact⟨b,xs,Ls,A1,c1,v2,A3,c3,A4,c4,B1,b1,B2,b2,v9,A5,c5,ys,Lx,L9,rfl,rfl,i,e3,d,nd,l,j,p,C,B,z,r,v,t,o⟩
section
variable {b k:Nat} {x:ItemD} {xs:List Value} {Ls:List (List Nat)} {A1:Option Addr} {c1:Nat} {v2:Value} {A3:Option Addr} {c3:Nat} {A4:Option Addr} {c4:Nat} {B1:Option Addr} {b1:Nat} {B2:Option Addr} {b2:Nat} {v9:Value} {A5:Option Addr} {c5:Nat} {ys:List Value} {Lx:List (List Nat)} {L9:List Nat}
theorem Ig.cell (h:Ig w q b n c L W lst k x xs Ls A1 c1 v2 A3 c3 A4 c4 B1 b1 B2 b2 v9 A5 c5 ys Lx L9) (e:k<n) {j:Nat} (d:j<19) {u:Value} (a:(Ea x A1 c1 v2 (cV A3 x.items.length c3) A4 c4 B1 b1 B2 b2 v9 A5 c5)[j]?=some u):W.cell? ⟨b,k*19+j,none⟩=some u/\W.frozen? ⟨b,k*19+j,none⟩=false:=by
 refine⟨?_,h.own.frozenAt _⟩;rw[h.own.cellAt _ (by omega),<- a,<- h.cs,dt,if_pos d,dp]
theorem Ig.mem (h:Ig w q b n c L W lst k x xs Ls A1 c1 v2 A3 c3 A4 c4 B1 b1 B2 b2 v9 A5 c5 ys Lx L9) {j:Nat} (a:j∈Ls.getD k []):j≠b/\j<W.heap.size/\(j∈L\/w.heap.size<=j):=by
 refine⟨λ e=>?_,h.lt j (dv _ (bM a)),h.hL j (dv _ (bM a))⟩;subst e;exact (et.1 h.nd).1 (bM a)
theorem Ig.mnd (h:Ig w q b n c L W lst k x xs Ls A1 c1 v2 A3 c3 A4 c4 B1 b1 B2 b2 v9 A5 c5 ys Lx L9):(Ls.getD k []).Nodup:=by
 have a:=(et.1 h.nd).2;unfold dN at a;rw[dT] at a;rw[ds];cases hq:Ls[k]? with
 | none=>exact ev
 | some M=>exact a.1 M (ey hq)
theorem Ah.aaT (h:Ah w q A n c L W lst) {W':World} {K:List Nat} (a:Off K W W') (b:∀ k∈K,k∈L\/w.heap.size<=k):Off L w W':=h.off.trans a b
theorem Ig.ph (A:Ah w q (some ⟨b,0,none⟩) n c L W lst) (h:Ig w q b n c L W lst k x xs Ls A1 c1 v2 A3 c3 A4 c4 B1 b1 B2 b2 v9 A5 c5 ys Lx L9) (v:k<n) {W':World} {r:List ByteArray} {l:Value} (m:PE W W' b (k*19+3) v2 r l):Ah w q (some ⟨b,0,none⟩) n c L W' (lst.set k (x.wPh r)):=by
 have z:=h.M;have f:=λ j (d:j∈Ls.getD k [])=>h.mem d;have o:∀ j∈b :: Ls.flatten,¬ q j:=A.nq h.hL;have g:=h.mnd;rw[z] at f g;have C:aK q W W':=m.RS.stay λ j d p=>by
  rcases dl.1 p with e | e
  .subst e;exact o _ (d7q ..) d
  .exact o j (dv _ (bM (i:=k) (by rw[z];exact c6 _ (c6 _ e)))) d
 have u:∀ j∈L9 ++ (fp (cV A3 x.items.length c3) ++ Lx.flatten),j ∉ b :: fp v2:=λ j d p=>by
  rw[dq] at f g;rcases dl.1 p with e | e
  .exact (f j (c0 _ d)).1 e
  .exact (c7.1 g).2.2 j e j d rfl
 have y:aK (λ j=>j∈L9 ++ (fp (cV A3 x.items.length c3) ++ Lx.flatten)) W W':=m.RS.stay u;have t:gq W' q (x.wPh r) (Ea (x.wPh r) A1 c1 l (cV A3 x.items.length c3) A4 c4 B1 b1 B2 b2 v9 A5 c5) (fp l ++ L9 ++ (fp (cV A3 x.items.length c3) ++ Lx.flatten)):=
  .mk (x:=x.wPh r) (let hh:=h.q_.keep C;⟨hh.h1,hh.h4,hh.h5,hh.g1,hh.g2,hh.l1,hh.l4,hh.l5,hh.m1,hh.m2,hh.sz⟩) m.ph (pV.mono h.h9 (y.imp λ j d=>c6 _ d) λ a _ cs M G I=>G.keep (λ _ v _=>v) C (y.imp λ j d=>c6 _ (I j d))) (jP h.hr (y.imp λ j d=>c0 _ (c6 _ d))) h.hl (λ i F=>(h.hi i F).keep (λ _ v _=>v) C (y.imp λ j d=>c0 _ (c0 _ (bM d))))
 have B:k<lst.length:=by rw[h.hn];exact v
 have H:=m.RS.size;obtain⟨L',D,E⟩:=pV.put (a':=x.wPh r) (M':=fp l ++ L9 ++ (fp (cV A3 x.items.length c3) ++ Lx.flatten)) (Ur q) h.len (by rw[h.hn];exact h.own) h.el h.nd o h.lt B (j:=3) (by decide) (λ j d=>by rw[z];exact c6 _ (c6 _ d)) m (by rw[h.cs];exact t) (by
   rw[dq] at g ⊢;rw[c7] at g ⊢;refine⟨?_,g.2.1,λ j d J s e=>?_⟩
   .unfold fp;cases l.ownBlock <;> simp
   .subst e;rcases m.fpr j d with e | e
    .exact g.2.2 j e j s rfl
    .have:=(f j (by rw[dq];exact c0 _ s)).2.1;omega) (λ j d=>by
   rw[z];rw[dq] at d ⊢;rcases db.1 d with e | e
   .refine⟨?_,(m.ph.2.1.lt j (dB.1 e)).2⟩;rcases m.fpr j e with e | e
    .exact .inl (c6 _ e)
    .exact .inr e
   .have:=(f j (by rw[dq];exact c0 _ e)).2.1;exact⟨.inl (c0 _ e),by omega⟩)
 rw[h.hn] at D E;refine⟨⟨L',D,λ j d=>?_⟩,A.aaT m.RS λ j d=>?_,A.hq⟩
 .rcases E j d with e | e
  .exact h.hL j e
  .exact .inr (du A.off.size e)
 .rcases dl.1 d with e | e
  .subst e;exact h.hL _ (d7q ..)
  .exact (f j (c6 _ (c6 _ e))).2.2
theorem Ig.aka (f:Ah w q (some ⟨b,0,none⟩) n c L W lst) (h:Ig w q b n c L W lst k x xs Ls A1 c1 v2 A3 c3 A4 c4 B1 b1 B2 b2 v9 A5 c5 ys Lx L9) (F:k<n) {d:World} {g:ItemD} {M':List Nat} (p:Off (Ls.getD k []) W d) (C:gq d q g (Ea x A1 c1 v2 (cV A3 x.items.length c3) A4 c4 B1 b1 B2 b2 v9 A5 c5) M') (y:M'.Nodup) (r:∀ j∈M',(j∈Ls.getD k []\/W.heap.size<=j)/\j<d.heap.size):Ah w q (some ⟨b,0,none⟩) n c L d (lst.set k g):=by
 have i:∀ j∈b :: Ls.flatten,¬ q j:=f.nq h.hL;have m:k<lst.length:=by rw[h.hn];exact F
 have B:xs.set (k*19+0) (cS cT x.k)=xs:=by
  have E:xs[k*19+0]?=some (cS cT x.k):=by
   have:=congrArg (λ l=>l[0]?) h.cs;simp only[dt,dp] at this;rw[if_pos (by decide)] at this;exact this
  obtain⟨t,e⟩:=de.1 E;rw[<- e,ez]
 have s:(Ea x A1 c1 v2 (cV A3 x.items.length c3) A4 c4 B1 b1 B2 b2 v9 A5 c5).set 0 (cS cT x.k)=Ea x A1 c1 v2 (cV A3 x.items.length c3) A4 c4 B1 b1 B2 b2 v9 A5 c5:=rfl;obtain⟨L',z,D⟩:=pV.upd (v:=cV (some ⟨b,0,none⟩) n c) (A:=some ⟨b,0,none⟩) (c:=c) (a':=g) (M':=M') (w':=d) (Ur q) (by rw[h.hn]) h.len h.el h.nd i h.lt m (j:=0) (u:=cS cT x.k) (by decide) (p.more λ j a=>.inl (c0 _ a)) (by
  rw[B,h.hn];exact jP h.own (p.stay λ j a o=>(h.mem o).1 (by have:=dB.1 a;injection this with this;exact this.symm))) (by rw[h.cs,s];exact C) y r
 refine⟨⟨L',z,λ j a=>?_⟩,f.aaT p λ j a=>(h.mem a).2.2,f.hq⟩;rcases D j a with e | e
 .exact h.hL j e
 .exact .inr (du f.off.size e)
theorem Ig.chk (Z:Ah w q (some ⟨b,0,none⟩) n c L W lst) (h:Ig w q b n c L W lst k x xs Ls A1 c1 v2 A3 c3 A4 c4 B1 b1 B2 b2 v9 A5 c5 ys Lx L9) (R:k<n) {j:Nat} {r:dY} (hr:x.ans.ch[j]?=some r) :
  ∃ b9 G v,v9 = cV (some ⟨b9,0,none⟩) x.ans.ch.length G/\W.cell? ⟨b9,j*10+9,none⟩=some v/\W.frozen? ⟨b9,j*10+9,none⟩=false/\Dk W v r.ph/\b9∈Ls.getD k []/\(∀ i∈fp v,i∈Ls.getD k []/\i≠b9) /\
   ∀ W' t B,PE W W' b9 (j*10+9) v t B->Ah w q (some ⟨b,0,none⟩) n c L W' (lst.set k (x.GM (x.ans.ch.set j { r with ph:=t }))):=by
 have D:=h.M;have d:=λ j (o:j∈Ls.getD k [])=>h.mem o;have M:∀ j∈b :: Ls.flatten,¬ q j:=Z.nq h.hL;have K:∀ j∈Ls.getD k [],¬ q j:=λ j o=>M j (dv _ (bM o));have f:=h.mnd;rw[D] at d f K;obtain⟨o,rfl⟩:=de.1 hr;obtain⟨A9,G,zs,Ms,X,H,e3,U,s⟩:=h.h9;obtain⟨b9,rfl⟩:∃ b9,A9=some ⟨b9,0,none⟩:=by
  rcases H.2 with ⟨-,e⟩ | ⟨g,ab,aa,e,-⟩
  .omega
  .rw[X] at e;injection e with e;exact⟨g,e⟩
 subst X;obtain⟨Y,v,r1,r2,r3,I⟩:=U j o;have h8:=vT r2;have V:fp (cV (some ⟨b9,0,none⟩) x.ans.ch.length G) = [b9]:=rfl;have z:∀ i∈L9,i∈fp v2 ++ L9 ++ (fp (cV A3 x.items.length c3) ++ Lx.flatten):=λ i a=>c6 _ (c0 _ a);have gK:b9∈L9:=by rw[s,V];exact c6 _ (dw.2 rfl)
 have WS:∀ i∈fp v,i∈L9:=λ i a=>by rw[s];exact c0 _ (bM (i:=j) (by rw[I];exact a))
 have C:L9.Nodup:=by
  rw[dq] at f;exact (c7.1 (c7.1 f).2.1).1
 have N:∀ i∈fp v,i≠b9:=λ i a e=>by
  subst e;rw[s,V] at C;exact (c7.1 C).2.2 i (dw.2 rfl) i (bM (i:=j) (by rw[I];exact a)) rfl
 have y:zs[j*10+9]?=some v:=by
  have:=congrArg (λ l=>l[9]?) r1;simp only[dt,dp] at this;rw[if_pos (by decide)] at this;rw[this,ep (by omega),h8];rfl
 refine⟨b9,G,v,rfl,by rw[H.cellAt _ (by omega)];exact y,H.frozenAt _,r3,by rw[D];exact z _ gK,λ i a=>⟨by rw[D];exact z _ (WS i a),N i a⟩,λ W' t B p=>?_⟩;have T:=λ i (a:i∈L9)=>d i (z i a);have O:=p.RS.size;have u:∀ i∈b9 :: fp v,i∈L9:=λ i a=>by
  rcases dl.1 a with e | e
  .rw[e];exact gK
  .exact WS i e
 have S:aK q W W':=p.RS.stay λ i a A=>K i (z i (u i A)) a;have Q:((zs.drop (j*10)).take 10).set 9 B=Y ++ [cX x.ans.ch[j].soft,B]:=by
  rw[r1,es _ _ (by omega),h8];rfl
 obtain⟨L',s1,s2⟩:=pV.put (P:=λ w=>lW w q) (adS q) (a':={ x.ans.ch[j] with ph:=t }) (M':=fp B) e3 H U (by rw[<- s];exact C) (λ i a=>by rw[<- s] at a;exact K i (z i a)) (λ i a=>by rw[<- s] at a;exact (T i a).2.1) o (j:=9) (by decide) (λ i a=>by rw[I];exact a) p (by rw[Q];exact⟨Y,B,rfl,(r2.keep S).up O,p.ph,rfl⟩) (by unfold fp;cases B.ownBlock <;> simp) (λ i a=>⟨by rw[I];exact p.fpr i a,(p.ph.2.1.lt i (dB.1 a)).2⟩);rw[<- s] at s2;have F:∀ i∈fp v2 ++ (fp (cV A3 x.items.length c3) ++ Lx.flatten),i ∉ b9 :: fp v:=λ i a A=>by
  have:=u i A;rw[dq] at f;rcases db.1 a with e | e
  .exact (c7.1 f).2.2 i e i (c6 _ this) rfl
  .exact (c7.1 (c7.1 f).2.1).2.2 i this i e rfl
 have J:aK (λ i=>i∈fp v2 ++ (fp (cV A3 x.items.length c3) ++ Lx.flatten)) W W':=p.RS.stay F;have ac:(x.ans.ch.set j { x.ans.ch[j] with ph:=t }).length=x.ans.ch.length:=dm ..;have E:gq W' q (x.GM (x.ans.ch.set j { x.ans.ch[j] with ph:=t })) (Ea x A1 c1 v2 (cV A3 x.items.length c3) A4 c4 B1 b1 B2 b2 (cV (some ⟨b9,0,none⟩) x.ans.ch.length G) A5 c5) (fp v2 ++ L' ++ (fp (cV A3 x.items.length c3) ++ Lx.flatten)):=
  .mk (x:=x.GM (x.ans.ch.set j { x.ans.ch[j] with ph:=t })) (let hh:=h.q_.keep S;⟨hh.h1,hh.h4,hh.h5,hh.g1,hh.g2,hh.l1,hh.l4,hh.l5,hh.m1,hh.m2,hh.sz⟩) (h.h2.keep (J.imp λ i a=>c6 _ a)) s1.of (jP h.hr (J.imp λ i a=>c0 _ (c6 _ a))) h.hl (λ i a=>(h.hi i a).keep (λ _ R _=>R) S (J.imp λ j o=>c0 _ (c0 _ (bM o))))
 refine Ig.aka Z h R (p.RS.more λ i a=>.inl (by rw[D];exact z i (u i a))) E ?_ λ i a=>?_
 .rw[dq] at f ⊢;rw[c7,c7] at f ⊢;obtain⟨n1,⟨n2,n3,n4⟩,n5⟩:=f;refine⟨n1,⟨s1.nd,n3,λ i a i' m e=>?_⟩,λ i a i' m e=>?_⟩
  .subst e;rcases s2 i a with e | e
   .exact n4 i e i m rfl
   .have:=(d i (c0 _ m)).2.1;omega
  .subst e;rcases db.1 m with e | e
   .rcases s2 i e with e | e
    .exact n5 i a i (c6 _ e) rfl
    .have:=(d i (c6 _ (c6 _ a))).2.1;omega
   .exact n5 i a i (c0 _ e) rfl
 .rw[D];rcases db.1 a with e | e
  .rcases db.1 e with e | e
   .have:=(d i (c6 _ (c6 _ e))).2.1;exact⟨.inl (c6 _ (c6 _ e)),by omega⟩
   .refine⟨?_,s1.lt i e⟩;rcases s2 i e with e | e
    .exact .inl (z i e)
    .exact .inr e
  .have:=(d i (c0 _ e)).2.1;exact⟨.inl (c0 _ e),by omega⟩
theorem Ig.its (G:Ah w q (some ⟨b,0,none⟩) n c L W lst) (h:Ig w q b n c L W lst k x xs Ls A1 c1 v2 A3 c3 A4 c4 B1 b1 B2 b2 v9 A5 c5 ys Lx L9) (E:k<n) :
  OwN 59 19 (gq W q) W (cV A3 x.items.length c3) x.items (fp (cV A3 x.items.length c3) ++ Lx.flatten)/\(∀ j∈fp (cV A3 x.items.length c3) ++ Lx.flatten,j∈Ls.getD k []/\¬ q j) /\
   ∀ W' p o,p.length=x.items.length->OwN 59 19 (gq W' q) W' (cV A3 x.items.length c3) p o->(∀ j∈o,j∈fp (cV A3 x.items.length c3) ++ Lx.flatten\/W.heap.size<=j)->Off (fp (cV A3 x.items.length c3) ++ Lx.flatten) W W'->Ah w q (some ⟨b,0,none⟩) n c L W' (lst.set k (x.wIt p)):=by
 have v:=h.M;have d:=λ j (l:j∈Ls.getD k [])=>h.mem l;have B:∀ j∈b :: Ls.flatten,¬ q j:=G.nq h.hL;have A:∀ j∈Ls.getD k [],¬ q j:=λ j l=>B j (dv _ (bM l));have m:=h.mnd;rw[v] at d m A;refine⟨⟨⟨A3,c3,ys,Lx,rfl,h.hr,h.hl,h.hi,rfl⟩,(c7.1 m).2.1,λ j l=>(d j (c0 _ l)).2.1⟩,λ j l=>⟨by rw[v];exact c0 _ l,A j (c0 _ l)⟩,λ W' p o u D s f=>?_⟩;have S:=f.size;have J:aK q W W':=f.stay λ i g r=>A i (c0 _ r) g;have y:aK (λ i=>i∈fp v2 ++ L9) W W':=f.stay λ i g r=>(c7.1 m).2.2 i g i r rfl;obtain⟨A',c',Q,N,C,I,R,K,F⟩:=D.of;injection C with C dn dc;subst C dc;have H:dy A3 x.items.length c3 = cV A3 p.length c3:=by rw[u]
 rw[H] at I F;have t:gq W' q (x.wIt p) (Ea x A1 c1 v2 (cV A3 x.items.length c3) A4 c4 B1 b1 B2 b2 v9 A5 c5) (fp v2 ++ L9 ++ o):=by
  rw[H,F];exact .mk (x:=x.wIt p) (let hh:=h.q_.keep J;⟨hh.h1,hh.h4,hh.h5,hh.g1,hh.g2,hh.l1,hh.l4,hh.l5,hh.m1,hh.m2,hh.sz⟩) (h.h2.keep (y.imp λ i g=>c6 _ g)) (pV.mono h.h9 (y.imp λ j l=>c0 _ l) λ a _ cs M O P=>O.keep (λ _ E _=>E) J (y.imp λ j l=>c0 _ (P j l))) I R K
 refine Ig.aka G h E (f.more λ i g=>.inl (by rw[v];exact c0 _ g)) t ?_ λ i g=>?_
 .rw[c7];refine⟨(c7.1 m).1,D.nd,λ i g T z e=>?_⟩;subst e;rcases s i z with e | e
  .exact (c7.1 m).2.2 i g i e rfl
  .have:=(d i (c6 _ g)).2.1;omega
 .rw[v];rcases db.1 g with e | e
  .have:=(d i (c6 _ e)).2.1;exact⟨.inl (c6 _ e),by omega⟩
  .refine⟨?_,D.lt i e⟩;rcases s i e with e | e
   .exact .inl (c0 _ e)
   .exact .inr e
end
end
def aoH (w:World) (q:Nat->Prop) (A:Option Addr) (n c:Nat) (L:List Nat) (tl:List ItemD) (e:Ending) (w':World):Prop:=e = cY (.tuple #[])/\∃ L',OwN 59 19 (gq w' q) w' (cV A n c) tl L'/\(∀ k∈L',k∈L\/w.heap.size<=k)/\Off L w w'
def WU (l:List ItemD):Prop:=∀ (w0 w:World) (q:Nat->Prop) (tb mb pl:Nat) (kv:List (ByteArray × Value)) (A:Option Addr) (c:Nat) (L:List Nat),OwN 59 19 (gq w q) w (cV A l.length c) l L->(∀ k∈L,¬ q k/\k≠tb/\k≠mb/\w0.heap.size<=k)->(∀ k,q k->k<w.heap.size)->uP w tb mb pl kv->(∀ x∈l,Sj pl x)->Tab w0->DD w0 w->l.length<=1048576 ->
 Calls lM 29 #[cW (some ⟨tb,0,none⟩),cV A l.length c] w λ e w'=>aoH w q A l.length c L (lq pl (zL kv) l) e w'
theorem Ah.drew {w W:World} {q:Nat->Prop} {A:Option Addr} {n c:Nat} {L:List Nat} {lst:List ItemD} (h:Ah w q A n c L W lst):Ah w q A n c L W.drew lst:=by
 obtain⟨⟨i,b,g⟩,j,e⟩:=h;exact⟨⟨i,⟨pV.mono b.of ⟨c8 _,λ _ _ _=>rfl⟩ λ a _ cs M f _=>f.keep (λ _ d _=>d) ⟨c8 _,λ _ _ _=>rfl⟩ ⟨c8 _,λ _ _ _=>rfl⟩,b.nd,b.lt⟩,g⟩,j.trans (L':=L) ⟨rfl,rfl,rfl,c8 _,λ _ _ _=>rfl⟩ λ k d=>.inl d,e⟩
theorem Ah.later {w W f:World} {q:Nat->Prop} {A:Option Addr} {n c:Nat} {L:List Nat} {lst:List ItemD} (h:Ah w q A n c L W lst) (b:DD W f):Ah w q A n c L f lst:=by
 obtain⟨⟨l,e,j⟩,m,g⟩:=h;exact⟨⟨l,⟨pV.mono e.of (aK.of b) λ a _ cs M i _=>i.keep (λ _ d _=>d) (aK.of b) (aK.of b),e.nd,λ k d=>eA (e.lt k d) b.size⟩,j⟩,m.trans (Off.of (L:=L) b) λ k d=>.inl d,g⟩
theorem adU (x:ItemD) (a b:List dY):(x.GM a).GM b=x.GM b:=rfl
theorem aaU (x:ItemD):x.GM x.ans.ch=x:=by cases x;rfl
theorem GN {l:List ItemD} (Q:∀ x∈l,WU x.items):WU l:=by
 intro w0 w q tb mb pl o A c L hO hL bl hT O K ae bN;have aM:Ah w q A l.length c L w (jQ (lq pl (zL o) l) l 0):=⟨⟨L,by rw[xh];exact hO,λ k hk=>.inl hk⟩,Off.refl _ _,λ k hk=>(hL k hk).1,bl⟩;have D:(lq pl (zL o) l).length=l.length:=by rw[rU,eB]
 have bP:=hT.blk.lt;have b3:=hT.map.lt;have F:=qh (show ∀ W lst,Ah w q A l.length c L W lst->uP W tb mb pl o/\DD w0 W from λ W lst h=>⟨hT.keep h.off (λ e=>(hL tb e).2.1 rfl) (λ e=>(hL mb e).2.2.1 rfl),ae.trans (h.off.below ae.size λ k hk=>(hL k hk).2.2.2)⟩);have ZN:=qh K;have a5:=qh (show ∀ x∈l,WU x.items/\Sj pl x from λ x hx=>⟨Q x hx,O x hx⟩);have HL:=qh hL;have ba:=qh aM;obtain⟨N,aa⟩:∃ z,lq pl (zL o) l=z:=⟨_,rfl⟩;have aE:=qh aa;rw[aa] at ba D;have ch:=ae.size;clear hO hL bl hT O K aM aa Q;rw[aE.o];go_enter func29,ntmps29;go_wp2;go_loopw [8] (λ i wr=>∃ k:Nat,i = cS cT k/\k<=l.length/\Hid (Ah w q A l.length c L wr (jQ N l k))) (λ i _=>l.length+1 - (intOf i).toNat)
 case atStart=>exact⟨0,rfl,dj _,ba⟩
 case round =>
  obtain⟨k,rfl,hk,HS⟩:=hrel;obtain⟨wo,rfl⟩:=aG (wr);by_cases hlt:k<l.length
  case neg =>
   obtain rfl:k=l.length:=by omega
   go_wp2;go_end0;have h:=HS.o;rw[zO D] at h;obtain⟨L',h1,h2⟩:=h.ex;exact⟨rfl,L',h1,h2,h.off⟩
  obtain⟨x,hx⟩:=af (l[k]);obtain⟨ab,bk⟩:=a5.o _ (dx hlt);rw[hx] at ab bk;have a0:(jQ N l k)[k]?=some x:=by rw[zQ D hlt,hx]
  have a1:N[k]?=some (KD pl (zL o) x):=by rw[<- aE.o,rU,List.getElem?_map,dz hlt,hx];rfl
  have R:(jQ N l k).set k (KD pl (zL o) x)=jQ N l (k+1):=zS D hlt a1;have a3:=qh R;have aV:=qh hlt;have bp:(jQ N l k).length=l.length:=zN D hk;obtain⟨lst,yH⟩:=af (jQ N l k);rw[yH] at HS a3 a0 bp;cases bk;rename_i bA oO Z a6 P;have ac:=qh HS.o.drew;obtain⟨b,xs,Ls,A1,c1,v2,A3,c3,A4,c4,B1,b1,B2,b2,v9,A5,c5,ys,Lx,L9,bq,C⟩:=ac.o.open_ a0;subst bq;obtain⟨p1,-⟩:=C.cell hlt (j:=1) (by decide) rfl;obtain⟨p3,f3⟩:=C.cell hlt (j:=3) (by decide) rfl;obtain⟨aw,pX⟩:=F.o _ _ ac.o;have ak:b∈L\/w.heap.size<=b:=C.hL b (d7q ..);have a:∀ j,(j∈L\/w.heap.size<=j)->j≠tb/\j≠mb:=λ j hj=>by
   rcases hj with e | e
   .exact⟨(HL.o j e).2.1,(HL.o j e).2.2.1⟩
   .exact⟨by omega,by omega⟩
  have p:=qh a;have H:∀ j,v2.ownBlock=some j->j∈Ls.getD k []:=λ j hj=>by rw[C.M];exact c6 _ (c6 _ (dB.2 hj))
  have KP:=qh (put_any (wh:=x.nm) aw p3 f3 C.h2 (C.lt b (d7q ..)) (λ e=>(C.mem (H b e)).1 rfl) ⟨λ e=>(a b ak).1 e.symm,λ e=>(a b ak).2 e.symm,λ e=>(a tb (C.mem (H tb e)).2.2).1 rfl,λ e=>(a mb (C.mem (H mb e)).2.2).2 rfl⟩ (by unfold maxLen;omega) oO.1 oO.2);have Ar:=qh (show ∀ W' Eb am,PE wo.drew W' b (k*19+3) v2 Eb am->Ah w q (some ⟨b,0,none⟩) l.length c L W' (lst.set k (x.wPh Eb)) from λ W' Eb am hp=>Ig.ph ac.o C hlt hp);have ce:l.length*19<=20000000:=by omega
  clear p3 f3 C aw R a1 yH ak H a a5 hx;go_upto_region 3 with (fail);go_region_with (go_at_call 27;(with_reducible refine KP.o.mono ?_);rintro e1 w1 ⟨rfl,am,a7⟩);have G:=Ar.o _ _ _ a7;obtain⟨x1,s⟩:=af (x.wPh (oI pl (zL o x.nm) x.ph));have bd:x1.nm=x.nm:=by rw[<- s];rfl
  have ag:x1.ans.ch=x.ans.ch:=by rw[<- s];rfl
  have ay:x1.items=x.items:=by rw[<- s];rfl
  rw[s] at G;have T:k<lst.length:=by omega
  have aL:(lst.set k x1)[k]?=some x1:=by rw[d6q T]
  obtain⟨b',ar,a8,Ij,bj,ap,Y,X,Um,WN,CW,bf,DW,aZ,bg,Un,WO,be,a9,av,f,d⟩:=G.open_ aL;injection f with f;injection f with f;subst f;obtain⟨A9,c9,rfl⟩:=d.h9.sl;obtain⟨y,-⟩:=d.cell hlt (j:=17) (by decide) rfl;rw[ag] at y;obtain⟨T9,al⟩:=af (Dy pl (zL o) x.nm 0 x.ans.ch);have bn:=qh al;have I:T9.length=x.ans.ch.length:=by rw[<- al,zM]
  have bB:=qh (show Ah w q (some ⟨b,0,none⟩) l.length c L w1 (lst.set k (x1.GM (jQ T9 x.ans.ch 0))) from by
   rw[xh,<- ag,aaU];exact G)
  have S:=qh (da bd (da ay s));have ct:=Z.1;have Zl:=qh Z.2;have a2:=qh (da a6 P);have br:=qh ab;clear d G al a7 KP Ar s bd ag ay aL Z P ab a6 oO p1;go_upto_region 5 with (fail);clear y;go_loopw [29] (λ i wr=>∃ j:Nat,i = cS cT j/\j<=x.ans.ch.length/\Hid (Ah w q (some ⟨b,0,none⟩) l.length c L wr (lst.set k (x1.GM (jQ T9 x.ans.ch j))))) (λ i _=>x.ans.ch.length+1 - (intOf i).toNat)
  case atStart=>exact⟨0,rfl,dj _,bB⟩
  case round =>
   obtain⟨j,rfl,hj,ax⟩:=hrel;obtain⟨wz,rfl⟩:=aG (wr);by_cases hjl:j<x.ans.ch.length
   case neg =>
    obtain rfl:j=x.ans.ch.length:=by omega
    have n:=ax.o;rw[zO I] at n;have bo:(lst.set k (x1.GM T9))[k]?=some (x1.GM T9):=by rw[d6q T]
    obtain⟨b',ar,a8,Ij,bj,ap,Y,X,Um,WN,CW,bf,DW,aZ,bg,Un,WO,be,a9,av,f,d⟩:=n.open_ bo;injection f with f;injection f with f;subst f;obtain⟨p4,-⟩:=d.cell hlt (j:=4) (by decide) rfl;obtain⟨i1,i2,i3⟩:=Ig.its n d hlt;have bv:(x1.GM T9).items=x.items:=S.o.2.1;rw[bv] at i1 i2 i3 p4;obtain⟨bh,aD⟩:=F.o _ _ n;have KI:=qh ((br.o w0 wz q tb mb pl o Y X _ i1 (λ m hm=>⟨(i2 m hm).2,(p.o m (d.mem (i2 m hm).1).2.2).1,(p.o m (d.mem (i2 m hm).1).2.2).2,by
     rcases (d.mem (i2 m hm).1).2.2 with e | e
     .exact (HL.o m e).2.2.2
     .omega⟩) (λ m hm=>eA (n.hq.2 m hm) n.off.size) bh a2.o.2 ZN.o aD a2.o.1).mono (R':=λ e w'=>e = cY (.tuple #[])/\Ah w q (some ⟨b,0,none⟩) l.length c L w' (jQ N l (k+1))) λ e w' hq=>by
      obtain⟨he,bE,r1,r2,r3⟩:=hq;refine⟨he,?_⟩;have h:=i3 w' (lq pl (zL o) x.items) bE (by rw[rU,eB]) r1 r2 r3;rw[eC] at h;rw[<- a3.o,Us,S.o.2.2,bn.o];exact h)
    clear d n i1 i2 i3 bh aD bo;go_wp2_with (go_at_call 29;(with_reducible refine KI.o.mono ?_);rintro e5 w5 ⟨rfl,h5⟩);go_roundw
    case rel=>exact⟨k+1,by go_num,aV.o,qh h5⟩
    case measure =>
     have:=aV.o;simp[intOf];omega
   have u:=ax.o.drew;obtain⟨r,hr⟩:=af (x.ans.ch[j]);have J:(jQ T9 x.ans.ch j)[j]?=some r:=by rw[zQ I hjl,hr]
   have bi:=Zl.o r (by rw[<- hr];exact dx hjl);have bm:T9[j]?=some { r with ph:=oI pl (zL o (uq x.nm j)) r.ph }:=by rw[<- bn.o,GL pl (zL o) x.nm x.ans.ch 0 j hjl,hr,Nat.zero_add]
   have ao:(jQ T9 x.ans.ch j).set j { r with ph:=oI pl (zL o (uq x.nm j)) r.ph } = jQ T9 x.ans.ch (j+1):=zS I hjl bm;have D6:=qh hjl;obtain⟨M,U⟩:=af (jQ T9 x.ans.ch j);rw[U] at u J ao;have V:(lst.set k (x1.GM M))[k]?=some (x1.GM M):=by rw[d6q T]
   obtain⟨b',ar,a8,Ij,bj,ap,Y,X,Um,WN,CW,bf,DW,aZ,bg,Un,WO,be,a9,av,f,d⟩:=u.open_ V;injection f with f;injection f with f;subst f;obtain⟨b9,bS,v,bL,-,-,-,bw,-,-⟩:=Ig.chk u d hlt (j:=j) (r:=r) J;subst bL;have aR:M.length=x.ans.ch.length:=by rw[<- U,zN I hj]
   obtain⟨p1,-⟩:=d.cell hlt (j:=1) (by decide) rfl;obtain⟨y,-⟩:=d.cell hlt (j:=17) (by decide) rfl;rw[show (x1.GM M).nm=x.nm from S.o.1] at p1;rw[show (x1.GM M).ans.ch.length=x.ans.ch.length from aR] at y;have KP:=qh (show ∀ w2 (t:ByteArray),Below wz.drew.heap.size wz.drew w2->t.data.toList=Lib.itoa (j:Int)->Calls lM 27 #[cW (some ⟨tb,0,none⟩),cW (some ⟨b9,j*10+9,none⟩),cU (x.nm ++ (⟨#[47,99,104,101,99,107,47]⟩:ByteArray) ++ t)] w2 λ e w'=>e = cY (.tuple #[])/\Ah w q (some ⟨b,0,none⟩) l.length c L w' (lst.set k (x1.GM (jQ T9 x.ans.ch (j+1)))) from λ w2 t a4 ht=>by
    have an:=u.later a4;obtain⟨bb,cp,b6,cv,co,ci,cu,b0,cb,ck,b4,cl,cg,cs,cw,bO,cj,b5,cn,cq,E,g⟩:=an.open_ V;injection E with E;injection E with E;subst E;obtain⟨bc,cc,v',bx,q1,q2,q3,q4,q5,q6⟩:=Ig.chk an g hlt (j:=j) (r:=r) J;obtain⟨B,-⟩:=g.cell hlt (j:=17) (by decide) rfl;have bt:=Below.cell_of a4 y;rw[bx,show (x1.GM M).ans.ch.length=x.ans.ch.length from aR] at B;rw[bt] at B;injection B with B;injection B with B _ _;injection B with B;injection B with B;subst B;have ew:x.nm ++ (⟨#[47,99,104,101,99,107,47]⟩:ByteArray) ++ t=uq x.nm j:=by
     refine qU ?_;show _=x.nm.data.toList ++ 47 :: qg j;unfold qg;rw[<- ht];simp
    rw[ew];obtain⟨bs,cf⟩:=F.o _ _ an;have cr:=Lib.itoa_length_le (j:Int) (by omega) (by omega);have aq:(uq x.nm j).size<=maxLen:=by
     rw[<- aN];show (x.nm.data.toList ++ 47 :: qg j).length<=maxLen;unfold qg maxLen;rw[eg,ee,eg,aN];simp;omega
    refine (put_any (wh:=uq x.nm j) bs q1 q2 q3 (g.mem q4).2.1 (λ e=>(q5 b9 (dB.2 e)).2 rfl) ⟨λ e=>(p.o b9 (g.mem q4).2.2).1 e.symm,λ e=>(p.o b9 (g.mem q4).2.2).2 e.symm,λ e=>(p.o tb (g.mem (q5 tb (dB.2 e)).1).2.2).1 rfl,λ e=>(p.o mb (g.mem (q5 mb (dB.2 e)).1).2.2).2 rfl⟩ aq bi.1 bi.2).mono λ e w' hq=>?_;obtain⟨he,b7,hp⟩:=hq;refine⟨he,?_⟩;have h:=q6 w' _ _ hp;rw[eC] at h;have e5:(x1.GM M).GM ((x1.GM M).ans.ch.set j { r with ph:=oI pl (zL o (uq x.nm j)) r.ph })=x1.GM (jQ T9 x.ans.ch (j+1)):=by
     rw[adU,<- ao];rfl
    rw[e5] at h;exact h)
   have KI:=qh (show Calls lM 28 #[cS cT j] wz.drew λ e w'=>(∃ t:ByteArray,e = cY (cU t)/\t.data.toList=Lib.itoa (j:Int)/\t.size<=30)/\Below wz.drew.heap.size wz.drew w' from (kC j wz.drew (by omega) (by omega) (aB ZN.o (F.o _ _ u).2)).mono λ _ _ ⟨⟨t,he,ht⟩,hb⟩=>⟨⟨t,he,ht,by
    have:=Lib.itoa_length_le (j:Int) (by omega) (by omega);rw[<- aN,ht];omega⟩,hb⟩)
   have bR:=bA;clear d u J ao bm V U hr bw;go_upto_region 7 with (fail);go_region_with (first
    | (go_at_call 28;(with_reducible refine KI.o.mono ?_);rintro e3 w3 ⟨⟨t,rfl,ht,bX⟩,ad⟩;have bz:=qh (KP.o w3 t ad ht);have ca:=Below.cell_of ad p1;have B:=Below.cell_of ad y)
    | (go_at_call 27;(with_reducible refine bz.o.mono ?_);rintro e4 w4 ⟨rfl,h4⟩))
   all_goals
    (try go_wp2_with fail)
    go_roundw
    case rel=>exact⟨j+1,by go_num,D6.o,qh h4⟩
    case measure =>
     have:=D6.o;simp[intOf];omega
mutual
theorem aaW:∀ x:ItemD,WU x.items
 | .mk _ _ _ _ items _ _ _ _ _=>GN (BZ items)
theorem BZ:∀ l:List ItemD,∀ e∈l,WU e.items
 | [],_,h=>by cases h
 | a :: r,e,h=>by
  rcases dl.1 h with q | q
  .rw[q];exact aaW a
  .exact BZ r e q
end
theorem WV (l:List ItemD):WU l:=GN (BZ l)
end
open Go.RowKit
abbrev LsO (W:World) (v:Value) (l:List aS) (L:List Nat):Prop:=OwN 92 2 (rP W) W v l L
theorem aaX {W:World} {vs:Value} {lst:List aS} {L:List Nat} (h:LsO W vs lst L) {k:Nat} {x:aS} (o:lst[k]?=some x) :
  ∃ bs cs A c,vs = cV (some ⟨bs,0,none⟩) lst.length cs/\bs∈L/\W.cell? ⟨bs,k*2,none⟩=some (cU x.nm)/\W.cell? ⟨bs,k*2+1,none⟩=some (cV A x.os.length c):=by
 obtain⟨⟨A,cs,xs,Ls,d,a,e3,j,m⟩,nd,s⟩:=h;obtain⟨q,rfl⟩:=de.1 o;obtain⟨bs,rfl⟩:∃ b,A=some ⟨b,0,none⟩:=by
  rcases a.2 with ⟨-,e⟩ | ⟨g,n,i,e,-⟩
  .omega
  .rw[d] at e;injection e with e;exact⟨g,e⟩
 subst d;obtain⟨v,f,p,r⟩:=j k q;obtain⟨A,c,-,-,rfl,-⟩:=p;refine⟨bs,cs,A,c,rfl,by rw[m];exact c6 _ (dB.2 rfl),?_,?_⟩
 .rw[a.cellAt _ (by omega)];have:=congrArg (λ l=>l[0]?) f;simp only[dt,dp] at this;rw[if_pos (by decide)] at this;exact this
 .rw[a.cellAt _ (by omega)];have:=congrArg (λ l=>l[1]?) f;simp only[dt,dp] at this;rw[if_pos (by decide)] at this;exact this
theorem PI {W:World} {bs cs:Nat} {lst:List aS} {L:List Nat} (h:LsO W (cV (some ⟨bs,0,none⟩) lst.length cs) lst L) {k:Nat} {x:aS} (hx:lst[k]?=some x) {j:Nat} {o:kN} (ho:x.os[j]?=some o) :
  ∃ bo n v,W.cell? ⟨bs,k*2+1,none⟩=some (cV (some ⟨bo,0,none⟩) x.os.length n)/\W.cell? ⟨bo,j*4,none⟩=some (cS cT o.code)/\W.cell? ⟨bo,j*4+1,none⟩=some v/\W.frozen? ⟨bo,j*4+1,none⟩=false/\Dk W v o.ph/\bo∈L/\bo≠bs/\(∀ i∈fp v,i∈L/\i≠bo/\i≠bs) /\
   ∀ W' t w,PE W W' bo (j*4+1) v t w->∃ L',LsO W' (cV (some ⟨bs,0,none⟩) lst.length cs) (lst.set k { x with os:=x.os.set j { o with ph:=t } }) L'/\∀ i∈L',i∈L\/W.heap.size<=i:=by
 obtain⟨⟨A,ab,xs,Ls,F,O,e3,H,U⟩,nd,Q⟩:=h;injection F with F _ ec;subst F ec;obtain⟨N,rfl⟩:=de.1 hx;obtain⟨V,rfl⟩:=de.1 ho;have ef:fp (cV (some ⟨bs,0,none⟩) lst.length cs) = [bs]:=rfl;rw[ef] at U;subst U;obtain⟨v1,J,r2,r3⟩:=H k N;obtain⟨Ao,n,R,Ms,K,s,f3,S,r⟩:=r2;obtain⟨bo,rfl⟩:∃ b,Ao=some ⟨b,0,none⟩:=by
  rcases s.2 with ⟨-,e⟩ | ⟨g,ac,X,e,-⟩
  .omega
  .rw[K] at e;injection e with e;exact⟨g,e⟩
 subst K;obtain⟨v,E,g2,y⟩:=S j V;have I:fp (cV (some ⟨bo,0,none⟩) lst[k].os.length n) = [bo]:=rfl;have d:∀ i∈Ls.getD k [],i∈[bs] ++ Ls.flatten:=λ i a=>c0 _ (bM a);have z:bo∈Ls.getD k []:=by rw[r,I];exact c6 _ (dw.2 rfl)
 have C:∀ i∈fp v,i∈Ls.getD k []:=λ i a=>by rw[r];exact c0 _ (bM (i:=j) (by rw[y];exact a))
 have m:∀ i∈Ls.getD k [],i≠bs:=λ i a e=>(c7.1 nd).2.2 bs (dw.2 rfl) i (bM a) e.symm;have f:(Ls.getD k []).Nodup:=by
  have D:=(c7.1 nd).2.1;unfold dN at D;rw[dT] at D;rw[ds];cases hq:Ls[k]? with
  | none=>exact ev
  | some M=>exact D.1 M (ey hq)
 have G:∀ i∈fp v,i≠bo:=λ i a e=>by
  subst e;rw[r,I] at f;exact (c7.1 f).2.2 i (dw.2 rfl) i (bM (i:=j) (by rw[y];exact a)) rfl
 have c1:xs[k*2+1]?=some (cV (some ⟨bo,0,none⟩) lst[k].os.length n):=by
  have:=congrArg (λ l=>l[1]?) J;simp only[dt,dp] at this;rw[if_pos (by decide)] at this;exact this
 have d0:R[j*4+0]?=some (cS cT lst[k].os[j].code):=by
  have:=congrArg (λ l=>l[0]?) E;simp only[dt,dp] at this;rw[if_pos (by decide)] at this;exact this
 have d1:R[j*4+1]?=some v:=by
  have:=congrArg (λ l=>l[1]?) E;simp only[dt,dp] at this;rw[if_pos (by decide)] at this;exact this
 refine⟨bo,n,v,by rw[O.cellAt _ (by omega)];exact c1,by rw[s.cellAt _ (by omega)];exact d0,by rw[s.cellAt _ (by omega)];exact d1,s.frozenAt _,g2,d _ z,m _ z,λ i a=>⟨d _ (C i a),G i a,m i (C i a)⟩,λ W' t w p=>?_⟩;have ad:=p.RS.size;obtain⟨Y,s1,s2⟩:=pV.put (q:=λ _=>False) (P:=Ie) (agQ _) (a':={ lst[k].os[j] with ph:=t }) (M':=fp w) f3 s S (by rw[<- r];exact f) (λ _ _ h=>h) (λ i a=>by rw[<- r] at a;exact Q i (d i a)) V (j:=1) (by decide) (λ i a=>by rw[y];exact a) p (by rw[E];exact⟨w,rfl,p.ph,rfl⟩) (by unfold fp;cases w.ownBlock <;> simp) (λ i a=>⟨by rw[y];exact p.fpr i a,(p.ph.2.1.lt i (dB.1 a)).2⟩);rw[<- r] at s2;have T:Off (Ls.getD k []) W W':=p.RS.more λ i a=>.inl (by
  rcases dl.1 a with e | e
  .rw[e];exact z
  .exact C i e)
 have e0:xs.set (k*2+1) (cV (some ⟨bo,0,none⟩) lst[k].os.length n)=xs:=by
  obtain⟨aa,e⟩:=de.1 c1;rw[<- e,ez]
 obtain⟨L',t1,Z⟩:=pV.upd (q:=λ _=>False) (P:=rP) (v:=cV (some ⟨bs,0,none⟩) lst.length cs) (A:=some ⟨bs,0,none⟩) (c:=cs) (a':={ lst[k] with os:=lst[k].os.set j { lst[k].os[j] with ph:=t } }) (M':=Y) (w':=W') (adT _) rfl e3 H nd (λ _ _ h=>h) Q N (j:=1) (u:=cV (some ⟨bo,0,none⟩) lst[k].os.length n) (by decide) (T.more λ i a=>.inl (c0 _ a)) (by
  rw[e0];exact jP O (T.stay λ i a B=>m i B (by have:=dB.1 a;injection this with this;exact this.symm))) (by rw[J];exact⟨_,rfl,s1.of,r3⟩) s1.nd λ i a=>⟨s2 i a,s1.lt i a⟩
 exact⟨L',t1,Z⟩
end Go.Proofs.YtcnagconagpkcaaGreatDoor
