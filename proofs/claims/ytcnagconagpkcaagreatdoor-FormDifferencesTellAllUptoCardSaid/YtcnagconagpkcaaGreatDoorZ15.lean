/- Lemmas. -/
import Derived.Test.YtcnagconagpkcaaGreatDoorZ14
set_option maxHeartbeats 8000000
set_option maxRecDepth 100000
open Go.Value renaming int->cA, string->cC, slice->cD, pointer->cE
open Go.IntKind renaming i64->cB
open Go.Obj renaming cells->cF
open Go.AllReady renaming cons->cG, nil->cH
open Nat renaming le_refl->cI, zero_le->cJ, lt_of_lt_of_le->cK
open List renaming take_succ_eq_append_getElem->cL, take_of_length_le->cM
namespace Go.Proofs.YtcnagconagpkcaaGreatDoor
open Go.RowKit Vtx
attribute [local go_sem ↓] Go.wp_at_zero Go.wp_at_succ
theorem Jd (Eb:FuncId) (YP LQ:NT) (a9 b9:Int) (TB:List (ByteArray × Int)) (Z:Nat) (aa:TB.length=Z) (cj:Z<=3) (a5:(TB.all λ d=>decide (d.1.data.toList≠[]))=true) (aA:∀ l,rC l TB=gJ a9 b9 l) (b5:∀ (a:Array Value) (W:World),(callFunc Eb a).run Tryz.prog W = .ok (.enter Eb a) W) (n9:Nat) (hE:∀ Q l,gJ a9 b9 l=0->Pz n9 LQ Q l = .ok Q l) (hN:∀ Q l,gJ a9 b9 l≠0->Pz n9 LQ Q l=(Pz n9 YP [] l.tail).bind λ bx l1=>Pz n9 LQ [kE (gJ a9 b9 l) (Q ++ bx)] l1) (g:Nat) (s:ByteArray) (i:Nat) (w:World) (JQ:n9=s.data.toList.length) (h:aP w g s i) (hm:TM w g) (L:List Tok) (hL:wordsOf s.data.toList i=L) (t:Nat) (ht:t≠g) (hT:ag w t 359 (mr TB).toArray) (hP:∀ L',L'.length<=L.length->fE Eb YP s L') :
  Calls Tryz.prog 313 #[cE (some ⟨g,0,none⟩),cD (some ⟨t,0,none⟩) Z Z,.func (.func Eb) #[cE (some ⟨g,0,none⟩)] #[]] w λ e w'=>vM w g s ((Pz s.data.toList.length YP [] L).bind λ Q l1=>Pz s.data.toList.length LQ Q l1) e w':=by
 have IM:=qh hP;subst JQ;have H:=qh aa;have bi:=qh a5;have bq:=qh aA;have bR:=qh hE;have aM:=qh hN;clear aa a5 aA hE hN;have b0:=h.b.lt;have H1:=qh (λ W hp hm=>hP L (cI _) g i W hp hm hL);have HM:=qh hm;obtain⟨r,hr⟩:=af (Pz s.data.toList.length YP [] L);rw[hr] at H1 ⊢;have HR:=qh hr;have lL:=qh h;have I:=qh hT;have aR:=qh ht;clear hr hP h hm hT ht;go_enter Tryz.func313,Tryz.ntmps313;go_wp2_with fail;obtain⟨W,hW,av,BR,-,bg,-⟩:=fA g w;have iV:=qh (show aP W g s i by rw[hW];exact lL.o.alloc _);rw[<- hW];clear hW;refine (H1.o W iV.o (HM.o.kp av)).mono ?_;cases r with
 | err k =>
  rintro e p ⟨rfl,E⟩;go_wp2_with fail;exact⟨rfl,rfl,av.trans E⟩
 | ok Q l1 =>
  rintro e p ⟨x,i1,cf,rfl,rfl,rfl,ay,a4,E⟩;have D8:=qh ay;obtain⟨bK,bd,bp,bt,wR,wS,a3⟩:=ay;rename_i A1 c1 A2 c2 Ou;clear wR wS a3 bK bd bp bt;have oK:(az x A1 c1 A2 c2).toArray = (BC x A1 c1 A2 x.ar.length c2):=rfl;rw[oK];clear oK;have B1:ZB p w.heap.size:=by (try unfold ZB);unfold ag;rw[E.block _ BR.lt (λ e=>by injection e with e;omega)];exact BR
  have cb:=E.size;have LU:=qh a4;clear BR a4;go_wp2_with fail;obtain⟨U,n⟩:=aH (p.alloc (.cells (BC x A1 c1 A2 x.ar.length c2) 67 (0,0)));have LP:=qh (show Kp g w U by rw[n];exact (av.trans E).alloc _);have b7:=qh (show dI (λ b=>W.heap.size<=b) p U by rw[n];exact dI.of ((Below.refl _ _).alloc (cI _) _));have yU:=qh (show aP U g s i1 by rw[n];exact LU.o.alloc _);have Ag:=qh (show ZB U w.heap.size by rw[n];exact B1.alloc _);have bB:=qh (show ag U p.heap.size 67 (BC x A1 c1 A2 x.ar.length c2) by rw[n];exact ag.new p _ _);have bk:=qh (show cO U (λ b=>W.heap.size<=b/\b≠p.heap.size) U.heap.size x (az x A1 c1 A2 c2) by
   have u:=D8.o.imp (q:=λ b=>W.heap.size<=b/\b≠p.heap.size) (λ k G hl=>⟨G,by omega⟩);rw[n];exact (u.keep (dI.of ((Below.refl _ _).alloc (cI _) _))).up (by simp))
  have b1:U.heap.size=p.heap.size+1:=by rw[n];simp
  have b4:=qh (show ag U t 359 (mr TB).toArray by
   have u:=LP.o.block t I.o.lt (λ e=>aR.o (by injection e))
   (try unfold ZB);unfold ag
   rw[u];exact I.o)
  have b2:t<w.heap.size:=I.o.lt;rw[<- n];clear n B1;obtain⟨R,hR⟩:=af (Pz s.data.toList.length LQ [x] (wordsOf s.data.toList i1));have bT:=qh hR.symm;have Dx:((xQ.ok [x] (wordsOf s.data.toList i1)).bind λ Q l1=>Pz s.data.toList.length LQ Q l1)=R:=hR;have HG:=qh Dx;have bX:=qh (wO HR.o);clear Dx hR;go_loopw [8,10,15] (λ _ _ _ wr=>∃ (y:Ex) (A A':Option Addr) (c c' z:Nat),Hid (ag wr p.heap.size 67 (BC y A c A' y.ar.length c'))/\Hid (cO wr (λ b=>W.heap.size<=b/\b≠p.heap.size) wr.heap.size y (az y A c A' c'))/\Hid (aP wr g s z)/\Hid (Kp g w wr)/\Hid (ZB wr w.heap.size)/\Hid (R=Pz s.data.toList.length LQ [y] (wordsOf s.data.toList z))/\Hid ((wordsOf s.data.toList z).length<=L.length)) (λ _ _ _ wr=>ab2 wr g s)
  case atStart=>exact⟨x,A1,A2,c1,c2,i1,bB,bk,yU,LP,Ag,bT,bX⟩
  case round =>
   obtain⟨y,A,A',c,c',z,aw,HY,Vq,Oj,G9,QI,J7⟩:=hrel;have a0:=qh (show ag wr t 359 (mr TB).toArray by
    have u:=Oj.o.block t I.o.lt (λ e=>aR.o (by injection e))
    (try unfold ZB);unfold ag
    rw[u];exact I.o)
   have aE:t<wr.heap.size:=a0.o.lt;have aZ:=qh (λ (W':World) (hp:aP W' g s z) (word:ByteArray) (hw:word.data.toList≠[])=>(show Calls Tryz.prog 289 #[cE (some ⟨g,0,none⟩),cC word] W' λ e w'=>e = .returned (.bool (mW (wordsOf s.data.toList z) word.data.toList))/\W'=w' from by
    have u:=wP g s z W' hp word.data.toList hw
    rwa [YK] at u))
   obtain⟨LW,ax⟩:=af (wordsOf s.data.toList z);have vH:=qh ax;rw[ax] at aZ;clear ax;go_wp2_with fail;go_loopw [8,10,15] (λ op _ ix wz=>∃ k:Nat,∃ o:Int,k<=Z/\ix = cA cB k/\op = cA cB o/\Hid (o=rC LW (TB.take k))/\EG wr wz) (λ _ _ ix _=>Z - (intOf ix).toNat)
   case atStart=>exact⟨0,0,cJ _,rfl,rfl,qh rfl,Below.refl _ _⟩
   case round =>
    obtain⟨k,o,G,rfl,rfl,ae,j⟩:=hrel;have eY:=j.size;have ac:=qh (Vq.o.below j);by_cases YZ:k<Z
    .have D:k<TB.length:=by rw[H.o];exact YZ
     obtain⟨ad,ci,ap,-,an,B⟩:=(wG (a0.o.below j aE) (cK aE eY) (by rw[H.o];unfold maxLen;omega)).at_ D;injection ap with ap;subst ap;obtain⟨d,nZ⟩:=af (TB[k]);have ba:d∈TB:=by rw[<- nZ];exact List.getElem_mem D
     have aq:=qh (show rC LW (TB.take (k+1))=if mW LW d.1.data.toList then d.2 else rC LW (TB.take k) by rw[cL D,nZ,Vr]);rw[nZ] at an;have aX:=qh YZ;have ab:d.1.data.toList≠[]:=by
      have u:=bi.o;have h2:=List.all_eq_true.1 u d ba
      rwa [decide_eq_true_iff] at h2
     obtain⟨dw,mD⟩:=d;have fU:ci = [cC dw,cA cB mD]:=an;subst fU;have qJ:wr.cell? ⟨t,k*2,none⟩=some (cC dw):=by have h:=B 0 _ rfl;simpa [addr_add] using h
     have rU:wr.cell? ⟨t,k*2+1,none⟩=some (cA cB mD):=by have h:=B 1 _ rfl;simpa [addr_add] using h
     have cc:(0:Int)<=(k:Nat):=by omega
     have E:((k:Nat):Int)<((Z:Nat):Int):=by omega
     have am:=qh (aZ.o (wr.alloc (cF #[cC dw,cA cB mD] 359 (0,0))) (ac.o.alloc _) dw ab);clear an B nZ ba D ab;obtain⟨b,hb⟩:=af (mW LW dw.data.toList);rw[show mW LW (dw,mD).1.data.toList=b from hb] at aq;rw[hb] at am;clear hb;cases b
     .go_wp2_with (go_at_call 289;(with_reducible refine am.o.mono ?_);rintro e w3 ⟨rfl,rfl⟩);go_roundw
      case rel=>exact⟨k+1,o,aX.o,by go_num,rfl,qh (by rw[aq.o,<- ae.o];rfl),j.alloc eY _⟩
      case measure =>
       have:=aX.o;simp[intOf];omega
     .go_wp2_with (go_at_call 289;(with_reducible refine am.o.mono ?_);rintro e w3 ⟨rfl,rfl⟩);go_roundw
      case rel=>exact⟨k+1,mD,aX.o,by go_num,rfl,qh (by rw[aq.o];rfl),j.alloc eY _⟩
      case measure =>
       have:=aX.o;simp[intOf];omega
    .have N:=qh (show o=gJ a9 b9 LW by
      have h:=ae.o;rw[cM (show TB.length<=k by rw[H.o];omega)] at h;rw[h,bq.o])
     clear ae;have a8:=qh (aw.o.below j aw.o.lt);have rD:=qh (G9.o.below j G9.o.lt);have a7:=qh ((HY.o.keep (dI.of j)).up j.size);have ng:=qh (Oj.o.trans (Kp.of j));by_cases ho:o=0
     .subst ho;have B2:=a8.o;have B3:=rD.o;obtain⟨bm,bO,bN,bL,bv,bs,bS,be⟩:=ag.c8 B2;obtain⟨dM,jY,eQ,jZ,gW,oH,gX,oI,jM,yw,jO,yx,jP,yz,jQ,yA⟩:=ag.z8 B3;go_wp2_with fail;refine bodyPost_ret (v:=.agg (BC y A c A' y.ar.length c')) (by simp[results,Tryz.results313,go_sem,dM,eQ,gW,gX,jM,jO,jP,jQ]) rfl ?_;have C:R = .ok [y] (wordsOf s.data.toList z):=by rw[QI.o,bR.o _ _ (by rw[vH.o];exact N.o.symm)]
      rw[HG.o,C];exact sO (a7.o.imp (λ k G _=>G.1)) bg b0 ac.o ng.o
     .have a2:=qh ho;have bo:(o == 0)=false:=by simp[ho]
      have ak:=qP (s:=s) (i:=z) (by rw[vH.o];exact Gf (by rw[<- N.o];exact ho));have HN:=qh (next_any g s z wr ac.o);obtain⟨i3,a6⟩:=af (aN s z+(aK s z).length);rw[a6] at HN ak;have vN:=qh ak;clear a6 ak ho;go_upto_region 12 with (go_at_call 254;(with_reducible refine HN.o.mono ?_);rintro e w4 ⟨rfl,wQ,a1⟩;have vO:=qh wQ;have oJ:=qh a1;clear wQ a1);obtain⟨r2,al⟩:=af (Pz s.data.toList.length YP [] (wordsOf s.data.toList i3));have X:=qh (λ W' (hp:aP W' g s i3) hm=>al▸IM.o (wordsOf s.data.toList i3) (by have:=vN.o.2;have:=J7.o;rw[vH.o] at *;omega) g i3 W' hp hm rfl);have ao:=qh al;have DT:=qh (HM.o.kp (ng.o.trans oJ.o));have M:=qh (a8.o.kp oJ.o (by omega));have sQ:=qh (rD.o.kp oJ.o (by omega));have bw:=qh (a7.o.YX oJ.o (λ k G=>by omega));have bA:=qh oJ.o.size;clear al;have B4:=M.o;obtain⟨bm,bO,bN,bL,bv,bs,bS,be⟩:=ag.c8 B4;cases r2 with
      | err k2 =>
       have C:R = .err k2:=by rw[QI.o,aM.o _ _ (by rw[vH.o,<- N.o];exact a2.o),<- vN.o.1,ao.o];rfl
       have jI:=qh C;clear C;refine wp_region_any (by kernel_rfl) ?_;change wpAny _ _ _ _ _ _ _ (World.drew _);refine wpAny_take (i:=0) (v:=?v1) rfl (by kernel_rfl) (by kernel_rfl) (by kernel_rfl) (λ _ _ _ h=>h) (Or.inl ⟨by rfl,?y1⟩) ?r1
       case y1 =>
        intro w
        go_simp
        all_goals with_reducible rfl
       refine wpAny_take (i:=2) (v:=?v2) rfl (by kernel_rfl) (by kernel_rfl) (by kernel_rfl) (λ _ _ _ h=>h) (Or.inl ⟨by rfl,?y2⟩) ?r2
       case y2 =>
        intro w
        go_simp
        all_goals with_reducible rfl
       refine wpAny_ready (rs:=[1,3]) (by kernel_rfl) (by simp) ?_;refine cG rfl (λ K m=>?_) ?_
       go_simp
       refine m _ _ ?_;clear m K;refine bQ (i:=3) (by kernel_rfl) rfl (λ K m=>?_)
       go_simp
       go_wp2_with fail;refine (X.o _ (vO.o.below (Below.refl _ _).drew) (DT.o.below (Below.refl _ _).drew)).mono ?_;rintro e O ⟨rfl,f⟩;go_wp2_with fail;refine⟨rfl,?_⟩;rw[HG.o,jI.o];exact⟨rfl,(ng.o.trans oJ.o).trans ((Kp.of (Below.refl _ _).drew).trans f)⟩;refine cG rfl (λ K m=>?_) cH
       go_simp
       go_wp2_with fail;refine (X.o _ (vO.o.below (Below.refl _ _).drew) (DT.o.below (Below.refl _ _).drew)).mono ?_;rintro e O ⟨rfl,f⟩;go_wp2_with fail;refine⟨rfl,?_⟩;rw[HG.o,jI.o];exact⟨rfl,(ng.o.trans oJ.o).trans ((Kp.of (Below.refl _ _).drew).trans f)⟩
      | ok es2 l2 =>
       refine wp_region_any (by kernel_rfl) ?_;change wpAny _ _ _ _ _ _ _ (World.drew _);refine wpAny_take (i:=0) (v:=?v3) rfl (by kernel_rfl) (by kernel_rfl) (by kernel_rfl) (λ _ _ _ h=>h) (Or.inl ⟨by rfl,?y3⟩) ?r3
       case y3 =>
        intro w
        go_simp
        all_goals with_reducible rfl
       refine wpAny_take (i:=2) (v:=?v4) rfl (by kernel_rfl) (by kernel_rfl) (by kernel_rfl) (λ _ _ _ h=>h) (Or.inl ⟨by rfl,?y4⟩) ?r4
       case y4 =>
        intro w
        go_simp
        all_goals with_reducible rfl
       refine wpAny_ready (rs:=[1,3]) (by kernel_rfl) (by simp) ?_;refine cG rfl (λ K m=>?_) ?_
       go_simp
       refine m _ _ ?_;clear m K;refine bQ (i:=3) (by kernel_rfl) rfl (λ K m=>?_)
       go_simp
       go_wp2_with fail;refine (X.o _ (vO.o.below (Below.refl _ _).drew) (DT.o.below (Below.refl _ _).drew)).mono ?_;rintro e O ⟨y2,i4,bl,rfl,rfl,rfl,P,xX,f⟩;have Je:=qh P;obtain⟨zM,J,ar,J8,uG,uH,uI⟩:=P;rename_i Y V T S J9;clear uG uH uI zM J ar J8;have nD:(az y2 Y V T S).toArray = (BC y2 Y V T y2.ar.length S):=rfl;rw[nD];clear nD;have B5:=(M.o.below (Below.refl _ _).drew M.o.lt).kp f (by omega);obtain⟨RY,RZ,bf,bh,bc,bE,bj,br⟩:=ag.c8 B5;go_wp2_with fail;rotate_left;refine cG rfl (λ K m=>?_) cH
       go_simp
       go_wp2_with fail;refine (X.o _ (vO.o.below (Below.refl _ _).drew) (DT.o.below (Below.refl _ _).drew)).mono ?_;rintro e O ⟨y2,i4,bl,rfl,rfl,rfl,P,xX,f⟩;have Je:=qh P;obtain⟨zM,J,ar,J8,uG,uH,uI⟩:=P;rename_i Y V T S J9;clear uG uH uI zM J ar J8;have nD:(az y2 Y V T S).toArray = (BC y2 Y V T y2.ar.length S):=rfl;rw[nD];clear nD;have B5:=(M.o.below (Below.refl _ _).drew M.o.lt).kp f (by omega);obtain⟨RY,RZ,bf,bh,bc,bE,bj,br⟩:=ag.c8 B5;go_wp2_with fail;refine bQ (i:=1) (by kernel_rfl) rfl (λ K m=>?_)
       go_simp
       refine m _ _ ?_;clear m K;rotate_left
       all_goals
        refine bQ (i:=4) (by kernel_rfl) rfl (λ K m=>?_)
        go_simp
        refine m _ _ ?_;clear m K;refine bQ (i:=5) (by kernel_rfl) rfl (λ K m=>?_)
        go_simp
        go_wp2_with fail;refine (iy o _ 2 2 _).mono ?_;rintro e w6 ⟨rfl,F⟩;have B6:=(B5.alloc (cF #[cA cB y.k,cA cB y.op,cC y.nm,cA cB y.v.k,cA cB y.v.n,cC y.v.s,cD A y.v.l.length c,cD A' y.ar.length c',cA cB y2.k,cA cB y2.op,cC y2.nm,cA cB y2.v.k,cA cB y2.v.n,cC y2.v.s,cD Y y2.v.l.length V,cD T y2.ar.length S] 67 (0,0))).below F (B5.alloc _).lt;obtain⟨lC,cs,b3,cx,co,cg,cz,cn,cq,cp,cl,cw,cu,ch,ck,ce⟩:=ag.z8 B6;go_wp2_with fail;refine bQ (i:=6) (by kernel_rfl) rfl (λ K m=>?_)
        go_simp
        refine m _ _ ?_;clear m K;refine wpAny_done (by kernel_rfl) ?_ _;have J:=f.size;have ca:w4.heap.size<=O.heap.size:=by simpa using J
        have ct:=bA.o;have b6:=j.size;have cv:=aw.o.lt;have cr:g<O.heap.size:=xX.b.lt;have bb:=qh (show aP (kT w6 p.heap.size (cA cB 4) (cA cB o) (cC ⟨#[]⟩) (cA cB 0) (cA cB 0) (cC ⟨#[]⟩) (cD none 0 0) (cD (some ⟨O.heap.size,0,none⟩) 2 2)) g s i4 from ((xX.alloc (cF #[cA cB y.k,cA cB y.op,cC y.nm,cA cB y.v.k,cA cB y.v.n,cC y.v.s,cD A y.v.l.length c,cD A' y.ar.length c',cA cB y2.k,cA cB y2.op,cC y2.nm,cA cB y2.v.k,cA cB y2.v.n,cC y2.v.s,cD Y y2.v.l.length V,cD T y2.ar.length S] 67 (0,0))).below F).kp (fF _ _ _ _ _ _ _ _ _ _ g (by omega)));have JZ:=qh (show Kp g w (kT w6 p.heap.size (cA cB 4) (cA cB o) (cC ⟨#[]⟩) (cA cB 0) (cA cB 0) (cC ⟨#[]⟩) (cD none 0 0) (cD (some ⟨O.heap.size,0,none⟩) 2 2)) from uD ((((ng.o.trans oJ.o).trans ((Kp.of (Below.refl _ _).drew).trans f)).alloc (cF #[cA cB y.k,cA cB y.op,cC y.nm,cA cB y.v.k,cA cB y.v.n,cC y.v.s,cD A y.v.l.length c,cD A' y.ar.length c',cA cB y2.k,cA cB y2.op,cC y2.nm,cA cB y2.v.k,cA cB y2.v.n,cC y2.v.s,cD Y y2.v.l.length V,cD T y2.ar.length S] 67 (0,0))).trans (Kp.of F)) (by omega) _ _ _ _ _ _ _ _);have MM:=qh (show ag (kT w6 p.heap.size (cA cB 4) (cA cB o) (cC ⟨#[]⟩) (cA cB 0) (cA cB 0) (cC ⟨#[]⟩) (cD none 0 0) (cD (some ⟨O.heap.size,0,none⟩) 2 2)) w.heap.size 67 #[cA cB 0,cA cB 0,cC ⟨#[]⟩,cA cB 0,cA cB 0,cC ⟨#[]⟩,cD none 0 0,cD none 0 0] by
         have u:=((((sQ.o.below (Below.refl _ _).drew sQ.o.lt).kp f (by omega)).alloc (cF #[cA cB y.k,cA cB y.op,cC y.nm,cA cB y.v.k,cA cB y.v.n,cC y.v.s,cD A y.v.l.length c,cD A' y.ar.length c',cA cB y2.k,cA cB y2.op,cC y2.nm,cA cB y2.v.k,cA cB y2.v.n,cC y2.v.s,cD Y y2.v.l.length V,cD T y2.ar.length S] 67 (0,0))).below F (by have:=F.size;simp at *;omega))
         (try unfold ZB);unfold ag
         rw[fF _ _ _ _ _ _ _ _ _ _ _ (by omega)];exact u)
        have bn:=qh (Eg (b:=p.heap.size) (YW o (((bw.o.keep (dI.of (Below.refl _ _).drew)).up (by simp)).YX f (λ k G=>by omega)) (Je.o.imp (λ k G _=>by simp at G;exact⟨by omega,by omega⟩)) F (λ k G=>⟨by omega,by omega⟩)) (λ k G=>G.2) (cA cB 4) (cA cB o) (cC ⟨#[]⟩) (cA cB 0) (cA cB 0) (cC ⟨#[]⟩) (cD none 0 0) (cD (some ⟨O.heap.size,0,none⟩) 2 2));have aD:R=Pz s.data.toList.length LQ [kE o [y,y2]] (wordsOf s.data.toList i4):=by
         rw[QI.o,aM.o _ _ (by rw[vH.o,<- N.o];exact a2.o),vH.o,<- N.o,<- vH.o,<- vN.o.1,ao.o];rfl
        have NY:=qh aD;have aL:=qh (show (wordsOf s.data.toList i4).length<(wordsOf s.data.toList z).length by
         have u:=wO ao.o;have h2:=vN.o.2;omega)
        clear aD
        try go_wp2_with fail
        go_roundw
        case rel=>exact⟨kE o [y,y2],none,some ⟨O.heap.size,0,none⟩,0,2,i4,qh (Aa B6 _ _ _ _ _ _ _ _),bn,bb,JZ,MM,NY,qh (by have u:=aL.o;have h2:=J7.o;omega)⟩
        case measure =>
         have u:ab2 (kT w6 p.heap.size (cA cB 4) (cA cB o) (cC ⟨#[]⟩) (cA cB 0) (cA cB 0) (cC ⟨#[]⟩) (cD none 0 0) (cD (some ⟨O.heap.size,0,none⟩) 2 2)) g s<(wordsOf s.data.toList z).length:=by rw[YV bb.o];exact aL.o
         have h3:=YV Vq.o;rw[<- h3] at u;exact u
theorem QP (g:Nat) (s:ByteArray) (i:Nat) (w:World) (h:aP w g s i) (f:TM w g) (L:List Tok) (j:wordsOf s.data.toList i=L) (t:Nat) (k:t≠g) (d:ag w t 359 (mr ja).toArray) (m:∀ c,c.length<=L.length->fE 314 .product s c) :
  Calls Tryz.prog 313 #[cE (some ⟨g,0,none⟩),cD (some ⟨t,0,none⟩) 2 2,.func (.func 314) #[cE (some ⟨g,0,none⟩)] #[]] w λ e w'=>vM w g s ((Pz s.data.toList.length .product [] L).bind λ b l1=>Pz s.data.toList.length .DL b l1) e w':=
 Jd 314 .product .DL 15 16 ja 2 rfl (by decide) (by decide) Vs (λ a W=>by simp[callFunc,go_sem,Tryz.func314,Tryz.f314]) s.data.toList.length (λ b l h=>by
  rw[iJ];dsimp only[iI];rw[if_pos h]) (λ b l h=>by
  rw[iJ];dsimp only[iI];rw[if_neg h]) g s i w rfl h f L j t k d m
theorem Ox (g:Nat) (s:ByteArray) (i:Nat) (w:World) (h:aP w g s i) (f:TM w g) (L:List Tok) (j:wordsOf s.data.toList i=L) (t:Nat) (k:t≠g) (d:ag w t 359 (mr jb).toArray) (m:∀ c,c.length<=L.length->fE 317 .minus s c) :
  Calls Tryz.prog 313 #[cE (some ⟨g,0,none⟩),cD (some ⟨t,0,none⟩) 3 3,.func (.func 317) #[cE (some ⟨g,0,none⟩)] #[]] w λ e w'=>vM w g s ((Pz s.data.toList.length .minus [] L).bind λ b l1=>Pz s.data.toList.length .jH b l1) e w':=
 Jd 317 .minus .jH 17 19 jb 3 rfl (by decide) (by decide) Vt (λ a W=>by simp[callFunc,go_sem,Tryz.func317,Tryz.f317]) s.data.toList.length (λ b l h=>by
  rw[iJ];dsimp only[iI];rw[if_pos h]) (λ b l h=>by
  rw[iJ];dsimp only[iI];rw[if_neg h]) g s i w rfl h f L j t k d m
theorem Y1 (s:ByteArray) (L:List Tok) (h:∀ Q,Q.length<=L.length->fE 314 .product s Q):fE 304 .sum s L:=by
 intro g i w D K hL;have A:=qh (λ W t (B:aP W g s i) (z:TM W g) (ht:t≠g) hT=>QP g s i W B z L hL t ht hT h);rw[show ((Pz s.data.toList.length .product [] L).bind λ S l1=>Pz s.data.toList.length .DL S l1)=Pz s.data.toList.length .sum [] L from by rw[iJ _ .sum];rfl] at A;have lL:=qh D;have HM:=qh K;have I:=D.b.lt;obtain⟨r,R⟩:=af (Pz s.data.toList.length .sum [] L);rw[R] at A ⊢;clear D K R;go_enter Tryz.func304,Tryz.ntmps304;go_upto_region 1 with (fail);obtain⟨W,n,E,O,-,Z,-⟩:=fA g w;have M:=qh (show aP W g s i by rw[n];exact lL.o.alloc _);rw[<- n];clear n;go_wp2_with fail;refine (Vw W).mono ?_;rintro e N ⟨rfl,f,a⟩;have j:=qh f;have Y:=qh (M.o.below a);have F:=qh (E.trans (Kp.of a));have G:=O.below a O.lt;have ab:=a.size;have U:g<W.heap.size:=M.o.b.lt;clear f a;go_wp2_with fail;refine (A.o N W.heap.size Y.o (HM.o.kp F.o) (by omega) j.o).mono ?_;cases r with
 | err k =>
  rintro e J ⟨rfl,b⟩;go_wp2_with fail;exact⟨rfl,rfl,F.o.trans b⟩
 | ok S l1 =>
  rintro e J ⟨x,i1,aa,rfl,rfl,rfl,c,y,b⟩;have D8:=qh c;obtain⟨C,m,p,u,wR,wS,d⟩:=c;rename_i H l o q Ou;clear wR wS d C m p u;have P:(az x H l o q).toArray = (BC x H l o x.ar.length q):=rfl;rw[P];clear P;have B1:ZB J w.heap.size:=G.kp b (by omega);obtain⟨dM,jY,eQ,jZ,gW,oH,gX,oI,jM,yw,X,yx,T,yz,V,yA⟩:=ag.z8 B1;go_wp2_with fail;refine bodyPost_ret (v:=.agg (BC x H l o x.ar.length q)) (by simp[results,Tryz.results304,go_sem,dM,eQ,gW,gX,jM,X,T,V]) rfl ?_;exact sO (L:=N.heap.size) D8.o (by omega) I y (F.o.trans b)
theorem Ko (s:ByteArray) (L:List Tok) (h:∀ Q,Q.length<=L.length->fE 317 .minus s Q):fE 314 .product s L:=by
 intro g i w D K hL;have A:=qh (λ W t (B:aP W g s i) (z:TM W g) (ht:t≠g) hT=>Ox g s i W B z L hL t ht hT h);rw[show ((Pz s.data.toList.length .minus [] L).bind λ S l1=>Pz s.data.toList.length .jH S l1)=Pz s.data.toList.length .product [] L from by rw[iJ _ .product];rfl] at A;have lL:=qh D;have HM:=qh K;have I:=D.b.lt;obtain⟨r,R⟩:=af (Pz s.data.toList.length .product [] L);rw[R] at A ⊢;clear D K R;go_enter Tryz.func314,Tryz.ntmps314;go_upto_region 1 with (fail);obtain⟨W,n,E,O,-,Z,-⟩:=fA g w;have M:=qh (show aP W g s i by rw[n];exact lL.o.alloc _);rw[<- n];clear n;go_wp2_with fail;refine (Vx W).mono ?_;rintro e N ⟨rfl,f,a⟩;have j:=qh f;have Y:=qh (M.o.below a);have F:=qh (E.trans (Kp.of a));have G:=O.below a O.lt;have ab:=a.size;have U:g<W.heap.size:=M.o.b.lt;clear f a;go_wp2_with fail;refine (A.o N W.heap.size Y.o (HM.o.kp F.o) (by omega) j.o).mono ?_;cases r with
 | err k =>
  rintro e J ⟨rfl,b⟩;go_wp2_with fail;exact⟨rfl,rfl,F.o.trans b⟩
 | ok S l1 =>
  rintro e J ⟨x,i1,aa,rfl,rfl,rfl,c,y,b⟩;have D8:=qh c;obtain⟨C,m,p,u,wR,wS,d⟩:=c;rename_i H l o q Ou;clear wR wS d C m p u;have P:(az x H l o q).toArray = (BC x H l o x.ar.length q):=rfl;rw[P];clear P;have B1:ZB J w.heap.size:=G.kp b (by omega);obtain⟨dM,jY,eQ,jZ,gW,oH,gX,oI,jM,yw,X,yx,T,yz,V,yA⟩:=ag.z8 B1;go_wp2_with fail;refine bodyPost_ret (v:=.agg (BC x H l o x.ar.length q)) (by simp[results,Tryz.results314,go_sem,dM,eQ,gW,gX,jM,X,T,V]) rfl ?_;exact sO (L:=N.heap.size) D8.o (by omega) I y (F.o.trans b)
theorem Y2 (s:ByteArray) (L:List Tok) (hN:∀ L',L'.length<L.length->fE 291 .not s L') (hS:∀ L',L'.length<=L.length->fE 304 .sum s L'):fE 291 .not s L:=by
 intro g i w U hm hL;have lL:=qh U;have HM:=qh hm;have a3:=U.b.lt;have O:=qh (iJ s.data.toList.length .not [] L);obtain⟨R,hR⟩:=af (Pz s.data.toList.length .not [] L);rw[hR] at O ⊢;dsimp only[iI] at O;obtain⟨b,hb⟩:=af (mW L abq);have HI:=qh (λ (P:World) (U:aP P g s i)=>wP g s i P U abq (by decide));rw[hL,hb,show tb abq=⟨#[110,111,116]⟩ from rfl] at HI;have dH:=qh hb;clear U hm hR hb;cases b
 .have O:=qh (O.o.trans (if_neg (by rw[dH.o];decide)));obtain⟨r,hr⟩:=af (Pz s.data.toList.length .sum [] L);have H1:=qh (λ P (U:aP P g s i) hm=>hr▸hS L (cI _) g i P U hm hL);have bm:=qh hr;rw[hr] at O;have FK:=qh hS;clear hr hN hS;go_enter Tryz.func291,Tryz.ntmps291;go_upto_region 1 with (fail);obtain⟨W,hW,Z,BR,a9,am,-⟩:=fA g w;have iV:=qh (show aP W g s i by rw[hW];exact lL.o.alloc _);have xU:=qh (HM.o.kp Z);have mi:=qh BR;rw[<- hW];clear hW BR;go_wp2_with (go_at_call 289;(with_reducible refine (HI.o _ iV.o).mono ?_);rintro e w2 ⟨rfl,rfl⟩);refine (H1.o W iV.o xU.o).mono ?_;cases r with
  | err k =>
   rintro e w1 ⟨rfl,aa⟩;go_wp2_with fail;refine⟨rfl,?_⟩;rw[O.o];exact⟨rfl,Z.trans aa⟩
  | ok es l1 =>
   rintro e w1 ⟨y,X,b3,rfl,rfl,rfl,a4,bc,aa⟩;have D8:=qh a4;obtain⟨bK,bn,bs,bv,wR,wS,bb⟩:=a4;rename_i G D E F Ou;clear wR wS bb bK bn bs bv;have oK:(az y G D E F).toArray = (BC y G D E y.ar.length F):=rfl;rw[oK];clear oK;have O:=qh (show R=if gJ 4 11 (wordsOf s.data.toList X)=0 then .ok [y] (wordsOf s.data.toList X) else (Pz s.data.toList.length .sum [] (wordsOf s.data.toList X).tail).bind λ aE l2=>.ok [kE (gJ 4 11 (wordsOf s.data.toList X)) ([y] ++ aE)] l2 from O.o);have b1:=aa.size;have LU:=qh bc;have LP:=qh (Z.trans aa);have Ag:=qh (mi.o.kp aa (by omega));have bl:=qh (wO bm.o);clear bc;go_upto_region 5 with (fail);obtain⟨W1,J⟩:=aH (w1.alloc (.cells (BC y G D E y.ar.length F) 67 (0,0)));have b5:W1.heap.size=w1.heap.size+1:=by rw[J];simp
   have yU:=qh (show aP W1 g s X by rw[J];exact LU.o.alloc _);have CG:=qh (show Kp g w W1 by rw[J];exact LP.o.alloc _);have Y3:=qh (show ZB W1 w.heap.size by rw[J];exact Ag.o.alloc _);have Ih:=qh (show ag W1 w1.heap.size 67 (BC y G D E y.ar.length F) by rw[J];exact ag.new w1 _ _);have bp:=qh (show cO W1 (λ b=>W.heap.size<=b) W1.heap.size y (az y G D E F) by
    rw[J];exact (D8.o.keep (dI.of ((Below.refl _ _).alloc (cI _) _))).up (by simp))
   rw[<- J];clear J;go_wp2_with fail;refine (NF W1).mono ?_;rintro e wc ⟨ta,rfl,a5,M⟩;have Qy:=qh a5;have aR:=qh (yU.o.below M);have bf:=qh (CG.o.trans (Kp.of M));have ay:=qh (Y3.o.below M Y3.o.lt);have ar:=qh (Ih.o.below M Ih.o.lt);have a7:=qh ((bp.o.keep (dI.of M)).up M.size);have bO:W1.heap.size<=wc.heap.size:=M.size;obtain⟨LW,a2⟩:=af (wordsOf s.data.toList X);have vH:=qh a2;have a8:=qh (λ (P:World) (U:aP P g s X) (word:ByteArray) (hw:word.data.toList≠[])=>(show Calls Tryz.prog 289 #[cE (some ⟨g,0,none⟩),cC word] P λ e w'=>e = .returned (.bool (mW (wordsOf s.data.toList X) word.data.toList))/\P=w' from by
    have h1:=wP g s X P U word.data.toList hw
    rwa [YK] at h1))
   rw[a2] at O bl a8;clear a5 M a2;go_wp2_with fail;go_loopw [18,5] (λ ix _ wz=>∃ k:Nat,k<=8/\ix = cA cB k/\Hid (∀ d∈fB.take k,mW LW d.1.data.toList=false)/\EG wc wz) (λ ix _ _=>8 - (intOf ix).toNat)
   case atStart=>exact⟨0,cJ _,rfl,qh (λ d h=>by simp at h),Below.refl _ _⟩
   case round =>
    obtain⟨k,hk,rfl,xH,B⟩:=hrel;have eY:=B.size;by_cases YZ:k<8
    .have H:k<fB.length:=YZ;obtain⟨ad,ci,a0,-,aM,S⟩:=(dO Qy.o B).at_ H;injection a0 with a0;subst a0;obtain⟨d,nZ⟩:=af (fB[k]);have a1:d∈fB:=by rw[<- nZ];exact List.getElem_mem H
     have sG:=qh (show fB.take (k+1)=fB.take k ++ [d] by rw[cL H,nZ]);have bh:=qh (show mW LW d.1.data.toList=true->gJ 4 11 LW=d.2 from λ h=>by rw[<- nZ];exact QL H xH.o (by rw[nZ];exact h));rw[nZ] at aM;have aX:=qh YZ;have aD:d.1.data.toList≠[]:=by
      have h1:(fB.all λ d=>decide (d.1.data.toList≠[]))=true:=by decide
      have h2:=List.all_eq_true.1 h1 d a1
      rwa [decide_eq_true_iff] at h2
     obtain⟨dw,A⟩:=d;have fU:ci = [cC dw,cA cB A]:=aM;subst fU;have qJ:wr.cell? (ta.add (k*2))=some (cC dw):=S 0 _ rfl;have rU:wr.cell? ⟨(ta.add (k*2)).block,(ta.add (k*2)).off+1,none⟩=some (cA cB A):=S 1 _ rfl;have b2:(0:Int)<=(k:Nat):=by omega
     have vI:(k:Int)<8:=by omega
     have bg:=qh (show A≠0 by
      have h1:(fB.all λ d=>decide (d.2≠0))=true:=by decide
      have h2:=List.all_eq_true.1 h1 _ a1
      rwa [decide_eq_true_iff] at h2)
     clear aM S nZ a1 H;go_upto_region 8 with (fail);obtain⟨Ws,aw⟩:∃ Ws,Ws=wr.alloc (cF #[cC dw,cA cB A] 359 (0,0)):=⟨_,rfl⟩;have I:EG wc Ws:=by rw[aw];exact B.alloc eY _
     have bj:=qh (show ag Ws wr.heap.size 359 #[cC dw,cA cB A] by rw[aw];exact ag.new wr _ _);have bk:=qh (aR.o.below I);have br:=qh (bf.o.trans (Kp.of I));rw[<- aw];clear aw qJ rU;have BS:=bj.o;obtain⟨bB,Hm⟩:=ag.c2 BS;have b0:g<wr.heap.size:=cK aR.o.b.lt eY;have aL:=qh (a8.o Ws bk.o dw aD);obtain⟨b,hb⟩:=af (mW LW dw.data.toList);rw[show mW LW (dw,A).1.data.toList=b from hb] at bh;rw[hb] at aL;clear aD;cases b
     .have Cf:=qh (show ∀ d∈fB.take (k+1),mW LW d.1.data.toList=false by
       rw[sG.o];intro x hx;rcases List.mem_append.1 hx with h | h
       .exact xH.o x h
       .rw[List.mem_singleton] at h;rw[h];exact hb)
      clear hb;go_wp2_with (go_at_call 289;(with_reducible refine aL.o.mono ?_);rintro e w3 ⟨rfl,rfl⟩);go_roundw
      case rel=>exact⟨k+1,aX.o,by go_num,Cf,I⟩
      case measure =>
       have:=aX.o;simp[intOf];omega
     .have aZ:=qh (bh.o rfl);have Q:=qP (s:=s) (i:=X) (by rw[vH.o];intro e;rw[e] at hb;cases hb);have HN:=qh (next_any g s X Ws bk.o);obtain⟨i3,bi⟩:=af (aN s X+(aK s X).length);rw[bi] at HN Q;have vN:=qh Q;clear bi Q hb;go_upto_region 10 with (first | (go_at_call 289;(with_reducible refine aL.o.mono ?_);rintro e w3 ⟨rfl,rfl⟩) | (go_at_call 254;(with_reducible refine HN.o.mono ?_);rintro e w4 ⟨rfl,wQ,ba⟩;have vO:=qh wQ;have oJ:=qh ba;clear wQ ba));obtain⟨r2,T⟩:=af (Pz s.data.toList.length .sum [] (wordsOf s.data.toList i3));have n:=qh (λ P (U:aP P g s i3) hm=>T▸FK.o (wordsOf s.data.toList i3) (by have h1:=vN.o.2;rw[vH.o] at h1;have h2:=bl.o;omega) g i3 P U hm rfl);have ac:=qh T;have Ii:=qh (br.o.trans oJ.o);have DT:=qh (HM.o.kp Ii.o);have Gh:=qh ((ar.o.below I ar.o.lt).kp oJ.o (by omega));have sQ:=qh ((ay.o.below I ay.o.lt).kp oJ.o (by omega));have Gi:=qh (bj.o.kp oJ.o (by have:=CG.o.size;omega));have bx:=qh (((a7.o.keep (dI.of I)).up I.size).YX oJ.o (λ k hk=>by omega));have b4:W.heap.size<=w4.heap.size:=by have:=oJ.o.size;have:=I.size;have:=CG.o.size;have:=bO;omega
      clear T bB Hm;have B4:=Gh.o;have bN:=Gi.o;obtain⟨bq,bS,bR,bL,bw,bt,bT,bo⟩:=ag.c8 B4;have Hm:w4.cell? ⟨wr.heap.size,1,none⟩=some (cA cB A):=bN.cell 1;cases r2 with
      | err k2 =>
       have j:R = .err k2:=by rw[O.o,if_neg (by rw[aZ.o];exact bg.o),<- vH.o,<- vN.o.1,ac.o];rfl
       have jI:=qh j;clear j;refine wp_region_any (by kernel_rfl) ?_;change wpAny _ _ _ _ _ _ _ (World.drew _);refine wpAny_take (i:=0) (v:=?v5) rfl (by kernel_rfl) (by kernel_rfl) (by kernel_rfl) (λ _ _ _ h=>h) (Or.inl ⟨by rfl,?y5⟩) ?r5
       case y5 =>
        intro w
        go_simp
        all_goals with_reducible rfl
       refine wpAny_take (i:=3) (v:=?v6) rfl (by kernel_rfl) (by kernel_rfl) (by kernel_rfl) (λ _ _ _ h=>h) (Or.inl ⟨by rfl,?y6⟩) ?r6
       case y6 =>
        intro w
        go_simp
        all_goals with_reducible rfl
       refine wpAny_ready (rs:=[1,2,4]) (by kernel_rfl) (by simp) ?_;refine cG rfl (λ K c=>?_) ?_
       go_simp
       refine c _ _ ?_;clear c K;refine wpAny_ready (rs:=[2,4]) (by kernel_rfl) (by simp) ?_;refine cG rfl (λ K c=>?_) ?_
       go_simp
       refine c _ _ ?_;clear c K;refine bQ (i:=4) (by kernel_rfl) rfl (λ K c=>?_)
       go_simp
       go_wp2_with fail;refine (n.o _ (vO.o.below (Below.refl _ _).drew) (DT.o.below (Below.refl _ _).drew)).mono ?_;rintro e o ⟨rfl,f⟩;go_wp2_with fail;refine⟨rfl,?_⟩;rw[jI.o];exact⟨rfl,Ii.o.trans ((Kp.of (Below.refl _ _).drew).trans f)⟩;refine cG rfl (λ K c=>?_) cH
       go_simp
       go_wp2_with fail;refine (n.o _ (vO.o.below (Below.refl _ _).drew) (DT.o.below (Below.refl _ _).drew)).mono ?_;rintro e o ⟨rfl,f⟩;go_wp2_with fail;refine⟨rfl,?_⟩;rw[jI.o];exact⟨rfl,Ii.o.trans ((Kp.of (Below.refl _ _).drew).trans f)⟩;refine cG rfl (λ K c=>?_) ?_
       go_simp
       refine c _ _ ?_;clear c K;refine wpAny_ready (rs:=[1,4]) (by kernel_rfl) (by simp) ?_;refine cG rfl (λ K c=>?_) ?_
       go_simp
       refine c _ _ ?_;clear c K;refine bQ (i:=4) (by kernel_rfl) rfl (λ K c=>?_)
       go_simp
       go_wp2_with fail;refine (n.o _ (vO.o.below (Below.refl _ _).drew) (DT.o.below (Below.refl _ _).drew)).mono ?_;rintro e o ⟨rfl,f⟩;go_wp2_with fail;refine⟨rfl,?_⟩;rw[jI.o];exact⟨rfl,Ii.o.trans ((Kp.of (Below.refl _ _).drew).trans f)⟩;refine cG rfl (λ K c=>?_) cH
       go_simp
       go_wp2_with fail;refine (n.o _ (vO.o.below (Below.refl _ _).drew) (DT.o.below (Below.refl _ _).drew)).mono ?_;rintro e o ⟨rfl,f⟩;go_wp2_with fail;refine⟨rfl,?_⟩;rw[jI.o];exact⟨rfl,Ii.o.trans ((Kp.of (Below.refl _ _).drew).trans f)⟩;refine cG rfl (λ K c=>?_) cH
       go_simp
       go_wp2_with fail;refine (n.o _ (vO.o.below (Below.refl _ _).drew) (DT.o.below (Below.refl _ _).drew)).mono ?_;rintro e o ⟨rfl,f⟩;go_wp2_with fail;refine⟨rfl,?_⟩;rw[jI.o];exact⟨rfl,Ii.o.trans ((Kp.of (Below.refl _ _).drew).trans f)⟩
      | ok aE l2 =>
       refine wp_region_any (by kernel_rfl) ?_;change wpAny _ _ _ _ _ _ _ (World.drew _);refine wpAny_take (i:=0) (v:=?v7) rfl (by kernel_rfl) (by kernel_rfl) (by kernel_rfl) (λ _ _ _ h=>h) (Or.inl ⟨by rfl,?y7⟩) ?r7
       case y7 =>
        intro w
        go_simp
        all_goals with_reducible rfl
       refine wpAny_take (i:=3) (v:=?v8) rfl (by kernel_rfl) (by kernel_rfl) (by kernel_rfl) (λ _ _ _ h=>h) (Or.inl ⟨by rfl,?y8⟩) ?r8
       case y8 =>
        intro w
        go_simp
        all_goals with_reducible rfl
       refine wpAny_ready (rs:=[1,2,4]) (by kernel_rfl) (by simp) ?_;refine cG rfl (λ K c=>?_) ?_
       go_simp
       refine c _ _ ?_;clear c K;refine wpAny_ready (rs:=[2,4]) (by kernel_rfl) (by simp) ?_;refine cG rfl (λ K c=>?_) ?_
       go_simp
       refine c _ _ ?_;clear c K;refine bQ (i:=4) (by kernel_rfl) rfl (λ K c=>?_)
       go_simp
       go_wp2_with fail;refine (n.o _ (vO.o.below (Below.refl _ _).drew) (DT.o.below (Below.refl _ _).drew)).mono ?_;rintro e o ⟨a,i4,ab,rfl,rfl,rfl,l,xX,f⟩;have Je:=qh l;obtain⟨zM,m,p,J8,uG,uH,uI⟩:=l;rename_i z u t q J9;clear uG uH uI zM m p J8;have N:(az a z u t q).toArray = (BC a z u t a.ar.length q):=rfl;rw[N];clear N;have B5:=(Gh.o.below (Below.refl _ _).drew Gh.o.lt).kp f (by omega);have Y:=(sQ.o.below (Below.refl _ _).drew sQ.o.lt).kp f (by omega);have V:=(Gi.o.below (Below.refl _ _).drew Gi.o.lt).kp f (by omega);have ak:o.cell? ⟨wr.heap.size,1,none⟩=some (cA cB A):=V.cell 1;have ap:(o.alloc (cF #[cA cB y.k,cA cB y.op,cC y.nm,cA cB y.v.k,cA cB y.v.n,cC y.v.s,cD G y.v.l.length D,cD E y.ar.length F,cA cB a.k,cA cB a.op,cC a.nm,cA cB a.v.k,cA cB a.v.n,cC a.v.s,cD z a.v.l.length u,cD t a.ar.length q] 67 (0,0))).cell? ⟨wr.heap.size,1,none⟩=some (cA cB A):=(V.alloc _).cell 1;obtain⟨RY,RZ,al,an,ae,ax,aq,av⟩:=ag.c8 B5;go_wp2_with fail;refine bQ (i:=5) (by kernel_rfl) rfl (λ K c=>?_)
       go_simp
       refine c _ _ ?_;clear c K;rotate_left;refine cG rfl (λ K c=>?_) cH
       go_simp
       go_wp2_with fail;refine (n.o _ (vO.o.below (Below.refl _ _).drew) (DT.o.below (Below.refl _ _).drew)).mono ?_;rintro e o ⟨a,i4,ab,rfl,rfl,rfl,l,xX,f⟩;have Je:=qh l;obtain⟨zM,m,p,J8,uG,uH,uI⟩:=l;rename_i z u t q J9;clear uG uH uI zM m p J8;have N:(az a z u t q).toArray = (BC a z u t a.ar.length q):=rfl;rw[N];clear N;have B5:=(Gh.o.below (Below.refl _ _).drew Gh.o.lt).kp f (by omega);have Y:=(sQ.o.below (Below.refl _ _).drew sQ.o.lt).kp f (by omega);have V:=(Gi.o.below (Below.refl _ _).drew Gi.o.lt).kp f (by omega);have ak:o.cell? ⟨wr.heap.size,1,none⟩=some (cA cB A):=V.cell 1;have ap:(o.alloc (cF #[cA cB y.k,cA cB y.op,cC y.nm,cA cB y.v.k,cA cB y.v.n,cC y.v.s,cD G y.v.l.length D,cD E y.ar.length F,cA cB a.k,cA cB a.op,cC a.nm,cA cB a.v.k,cA cB a.v.n,cC a.v.s,cD z a.v.l.length u,cD t a.ar.length q] 67 (0,0))).cell? ⟨wr.heap.size,1,none⟩=some (cA cB A):=(V.alloc _).cell 1;obtain⟨RY,RZ,al,an,ae,ax,aq,av⟩:=ag.c8 B5;go_wp2_with fail;refine bQ (i:=2) (by kernel_rfl) rfl (λ K c=>?_)
       go_simp
       refine c _ _ ?_;clear c K;refine bQ (i:=5) (by kernel_rfl) rfl (λ K c=>?_)
       go_simp
       refine c _ _ ?_;clear c K;rotate_left;refine cG rfl (λ K c=>?_) ?_
       go_simp
       refine c _ _ ?_;clear c K;refine wpAny_ready (rs:=[1,4]) (by kernel_rfl) (by simp) ?_;refine cG rfl (λ K c=>?_) ?_
       go_simp
       refine c _ _ ?_;clear c K;refine bQ (i:=4) (by kernel_rfl) rfl (λ K c=>?_)
       go_simp
       go_wp2_with fail;refine (n.o _ (vO.o.below (Below.refl _ _).drew) (DT.o.below (Below.refl _ _).drew)).mono ?_;rintro e o ⟨a,i4,ab,rfl,rfl,rfl,l,xX,f⟩;have Je:=qh l;obtain⟨zM,m,p,J8,uG,uH,uI⟩:=l;rename_i z u t q J9;clear uG uH uI zM m p J8;have N:(az a z u t q).toArray = (BC a z u t a.ar.length q):=rfl;rw[N];clear N;have B5:=(Gh.o.below (Below.refl _ _).drew Gh.o.lt).kp f (by omega);have Y:=(sQ.o.below (Below.refl _ _).drew sQ.o.lt).kp f (by omega);have V:=(Gi.o.below (Below.refl _ _).drew Gi.o.lt).kp f (by omega);have ak:o.cell? ⟨wr.heap.size,1,none⟩=some (cA cB A):=V.cell 1;have ap:(o.alloc (cF #[cA cB y.k,cA cB y.op,cC y.nm,cA cB y.v.k,cA cB y.v.n,cC y.v.s,cD G y.v.l.length D,cD E y.ar.length F,cA cB a.k,cA cB a.op,cC a.nm,cA cB a.v.k,cA cB a.v.n,cC a.v.s,cD z a.v.l.length u,cD t a.ar.length q] 67 (0,0))).cell? ⟨wr.heap.size,1,none⟩=some (cA cB A):=(V.alloc _).cell 1;obtain⟨RY,RZ,al,an,ae,ax,aq,av⟩:=ag.c8 B5;go_wp2_with fail;refine bQ (i:=5) (by kernel_rfl) rfl (λ K c=>?_)
       go_simp
       refine c _ _ ?_;clear c K;rotate_left;refine cG rfl (λ K c=>?_) cH
       go_simp
       go_wp2_with fail;refine (n.o _ (vO.o.below (Below.refl _ _).drew) (DT.o.below (Below.refl _ _).drew)).mono ?_;rintro e o ⟨a,i4,ab,rfl,rfl,rfl,l,xX,f⟩;have Je:=qh l;obtain⟨zM,m,p,J8,uG,uH,uI⟩:=l;rename_i z u t q J9;clear uG uH uI zM m p J8;have N:(az a z u t q).toArray = (BC a z u t a.ar.length q):=rfl;rw[N];clear N;have B5:=(Gh.o.below (Below.refl _ _).drew Gh.o.lt).kp f (by omega);have Y:=(sQ.o.below (Below.refl _ _).drew sQ.o.lt).kp f (by omega);have V:=(Gi.o.below (Below.refl _ _).drew Gi.o.lt).kp f (by omega);have ak:o.cell? ⟨wr.heap.size,1,none⟩=some (cA cB A):=V.cell 1;have ap:(o.alloc (cF #[cA cB y.k,cA cB y.op,cC y.nm,cA cB y.v.k,cA cB y.v.n,cC y.v.s,cD G y.v.l.length D,cD E y.ar.length F,cA cB a.k,cA cB a.op,cC a.nm,cA cB a.v.k,cA cB a.v.n,cC a.v.s,cD z a.v.l.length u,cD t a.ar.length q] 67 (0,0))).cell? ⟨wr.heap.size,1,none⟩=some (cA cB A):=(V.alloc _).cell 1;obtain⟨RY,RZ,al,an,ae,ax,aq,av⟩:=ag.c8 B5;go_wp2_with fail;refine wpAny_ready (rs:=[1,5]) (by kernel_rfl) (by simp) ?_;refine cG rfl (λ K c=>?_) ?_
       go_simp
       refine c _ _ ?_;clear c K;refine bQ (i:=5) (by kernel_rfl) rfl (λ K c=>?_)
       go_simp
       refine c _ _ ?_;clear c K;rotate_left;refine cG rfl (λ K c=>?_) cH
       go_simp
       refine c _ _ ?_;clear c K;refine bQ (i:=1) (by kernel_rfl) rfl (λ K c=>?_)
       go_simp
       refine c _ _ ?_;clear c K;rotate_left;refine cG rfl (λ K c=>?_) cH
       go_simp
       go_wp2_with fail;refine (n.o _ (vO.o.below (Below.refl _ _).drew) (DT.o.below (Below.refl _ _).drew)).mono ?_;rintro e o ⟨a,i4,ab,rfl,rfl,rfl,l,xX,f⟩;have Je:=qh l;obtain⟨zM,m,p,J8,uG,uH,uI⟩:=l;rename_i z u t q J9;clear uG uH uI zM m p J8;have N:(az a z u t q).toArray = (BC a z u t a.ar.length q):=rfl;rw[N];clear N;have B5:=(Gh.o.below (Below.refl _ _).drew Gh.o.lt).kp f (by omega);have Y:=(sQ.o.below (Below.refl _ _).drew sQ.o.lt).kp f (by omega);have V:=(Gi.o.below (Below.refl _ _).drew Gi.o.lt).kp f (by omega);have ak:o.cell? ⟨wr.heap.size,1,none⟩=some (cA cB A):=V.cell 1;have ap:(o.alloc (cF #[cA cB y.k,cA cB y.op,cC y.nm,cA cB y.v.k,cA cB y.v.n,cC y.v.s,cD G y.v.l.length D,cD E y.ar.length F,cA cB a.k,cA cB a.op,cC a.nm,cA cB a.v.k,cA cB a.v.n,cC a.v.s,cD z a.v.l.length u,cD t a.ar.length q] 67 (0,0))).cell? ⟨wr.heap.size,1,none⟩=some (cA cB A):=(V.alloc _).cell 1;obtain⟨RY,RZ,al,an,ae,ax,aq,av⟩:=ag.c8 B5;go_wp2_with fail;refine wpAny_ready (rs:=[1,2]) (by kernel_rfl) (by simp) ?_;refine cG rfl (λ K c=>?_) ?_
       go_simp
       refine c _ _ ?_;clear c K;refine bQ (i:=2) (by kernel_rfl) rfl (λ K c=>?_)
       go_simp
       refine c _ _ ?_;clear c K;refine bQ (i:=5) (by kernel_rfl) rfl (λ K c=>?_)
       go_simp
       refine c _ _ ?_;clear c K;rotate_left;refine cG rfl (λ K c=>?_) cH
       go_simp
       refine c _ _ ?_;clear c K;refine wpAny_ready (rs:=[1,5]) (by kernel_rfl) (by simp) ?_;refine cG rfl (λ K c=>?_) ?_
       go_simp
       refine c _ _ ?_;clear c K;refine bQ (i:=5) (by kernel_rfl) rfl (λ K c=>?_)
       go_simp
       refine c _ _ ?_;clear c K;rotate_left;refine cG rfl (λ K c=>?_) cH
       go_simp
       refine c _ _ ?_;clear c K;refine bQ (i:=1) (by kernel_rfl) rfl (λ K c=>?_)
       go_simp
       refine c _ _ ?_;clear c K;rotate_left
       all_goals
        refine bQ (i:=6) (by kernel_rfl) rfl (λ K c=>?_)
        go_simp
        go_wp2_with fail;refine (iy A _ 2 2 _).mono ?_;rintro e w6 ⟨rfl,C⟩;have B6:=(Y.alloc (cF #[cA cB y.k,cA cB y.op,cC y.nm,cA cB y.v.k,cA cB y.v.n,cC y.v.s,cD G y.v.l.length D,cD E y.ar.length F,cA cB a.k,cA cB a.op,cC a.nm,cA cB a.v.k,cA cB a.v.n,cC a.v.s,cD z a.v.l.length u,cD t a.ar.length q] 67 (0,0))).below C (Y.alloc _).lt;obtain⟨dM,jY,eQ,jZ,gW,oH,gX,oI,jM,yw,jO,yx,jP,yz,jQ,yA⟩:=ag.z8 B6;go_wp2_with fail;refine bQ (i:=7) (by kernel_rfl) rfl (λ K c=>?_)
        go_simp
        refine c _ _ ?_;clear c K;refine wpAny_done (by kernel_rfl) ?_ _;have m:=f.size;have bX:w4.heap.size<=o.heap.size:=by simpa using m
        have j:R = .ok [kE A [y,a]] (wordsOf s.data.toList i4):=by rw[O.o,if_neg (by rw[aZ.o];exact bg.o),aZ.o,<- vH.o,<- vN.o.1,ac.o];rfl
        have jI:=qh j;clear j;go_wp2_with fail;refine bodyPost_ret (v:=.agg #[cA cB 4,cA cB A,cC ⟨#[]⟩,cA cB 0,cA cB 0,cC ⟨#[]⟩,cD none 0 0,cD (some ⟨o.heap.size,0,none⟩) 2 2]) (by simp[results,Tryz.results291,go_sem,dM,eQ,gW,gX,jM,jO,jP,jQ]) rfl ?_;rw[jI.o];exact sO (L:=W.heap.size) (YW A (((bx.o.keep (dI.of (Below.refl _ _).drew)).up (by simp)).YX f (λ k hk=>by omega)) (Je.o.imp (λ k hk _=>by simp at hk;omega)) C (λ k hk=>by omega)) am a3 ((xX.alloc (cF #[cA cB y.k,cA cB y.op,cC y.nm,cA cB y.v.k,cA cB y.v.n,cC y.v.s,cD G y.v.l.length D,cD E y.ar.length F,cA cB a.k,cA cB a.op,cC a.nm,cA cB a.v.k,cA cB a.v.n,cC a.v.s,cD z a.v.l.length u,cD t a.ar.length q] 67 (0,0))).below C) (((Ii.o.trans ((Kp.of (Below.refl _ _).drew).trans f)).alloc (cF #[cA cB y.k,cA cB y.op,cC y.nm,cA cB y.v.k,cA cB y.v.n,cC y.v.s,cD G y.v.l.length D,cD E y.ar.length F,cA cB a.k,cA cB a.op,cC a.nm,cA cB a.v.k,cA cB a.v.n,cC a.v.s,cD z a.v.l.length u,cD t a.ar.length q] 67 (0,0))).trans (Kp.of C))
    .have aA:∀ d∈fB,mW LW d.1.data.toList=false:=by
      have h:=xH.o
      rwa [cM (show fB.length<=k by show 8<=k;omega)] at h
     have j:R = .ok [y] (wordsOf s.data.toList X):=by rw[O.o,if_pos (Vu aA),vH.o]
     have jI:=qh j;have B2:=ar.o.below B ar.o.lt;have B3:=ay.o.below B ay.o.lt;clear aA j;obtain⟨bq,bS,bR,bL,bw,bt,bT,bo⟩:=ag.c8 B2;obtain⟨dM,jY,eQ,jZ,gW,oH,gX,oI,jM,yw,jO,yx,jP,yz,jQ,yA⟩:=ag.z8 B3;go_wp2_with fail;refine bodyPost_ret (v:=.agg (BC y G D E y.ar.length F)) (by simp[results,Tryz.results291,go_sem,dM,eQ,gW,gX,jM,jO,jP,jQ]) rfl ?_;rw[jI.o];exact sO (L:=W.heap.size) ((a7.o.keep (dI.of B)).up B.size) am a3 (aR.o.below B) (bf.o.trans (Kp.of B))
 .have O:=qh (O.o.trans (if_pos dH.o));have Q:=qP (s:=s) (i:=i) (by rw[hL];intro e;have h:=dH.o;rw[e] at h;cases h);have HN:=qh (λ W (U:aP W g s i)=>next_any g s i W U);obtain⟨i2,a6⟩:=af (aN s i+(aK s i).length);rw[a6] at HN Q;have vN:=qh Q;obtain⟨r2,T⟩:=af (Pz s.data.toList.length .not [] (wordsOf s.data.toList i2));have n:=qh (λ P (U:aP P g s i2) hm=>T▸hN (wordsOf s.data.toList i2) (by have:=vN.o.2;rw[hL] at this;omega) g i2 P U hm rfl);have ac:=qh T;have be:=qh hL;clear T hN hS Q a6;go_enter Tryz.func291,Tryz.ntmps291;go_upto_region 1 with (fail);obtain⟨W,hW,Z,BR,a9,am,-⟩:=fA g w;have iV:=qh (show aP W g s i by rw[hW];exact lL.o.alloc _);have xU:=qh (HM.o.kp Z);have mi:=qh BR;rw[<- hW];clear hW BR;go_wp2_with (first | (go_at_call 289;(with_reducible refine (HI.o _ iV.o).mono ?_);rintro e w3 ⟨rfl,rfl⟩) | (go_at_call 254;(with_reducible refine (HN.o _ iV.o).mono ?_);rintro e w2 ⟨rfl,bd,ao⟩;have bE:=qh bd;have bA:=qh ao;have ng:=qh (Z.trans ao);have rD:=qh (mi.o.kp ao (by omega));clear bd ao));refine (n.o w2 bE.o (HM.o.kp ng.o)).mono ?_;have Gj:W.heap.size<=w2.heap.size:=bA.o.size;cases r2 with
  | err k2 =>
   rintro e o ⟨rfl,f⟩;have j:R = .err k2:=by rw[O.o,<- be.o,<- vN.o.1];rw[ac.o];rfl
   go_wp2_with fail;refine⟨rfl,?_⟩;rw[j];exact⟨rfl,ng.o.trans f⟩
  | ok aE l2 =>
   rintro e o ⟨y,i4,ab,rfl,rfl,rfl,l,xX,f⟩;have Je:=qh l;obtain⟨zM,m,p,J8,uG,uH,uI⟩:=l;rename_i G D E F J9;clear uG uH uI zM m p J8;have N:(az y G D E F).toArray = (BC y G D E y.ar.length F):=rfl;rw[N];clear N;have j:R = .ok [kE 1 [y]] (wordsOf s.data.toList i4):=by rw[O.o,<- be.o,<- vN.o.1];rw[ac.o];rfl
   have DX:=qh (rD.o.kp f (by omega));have m:=f.size;go_wp2_with fail;refine (iy 1 _ 1 1 _).mono ?_;rintro e w6 ⟨rfl,C⟩;have B6:=(DX.o.alloc (.cells (BC y G D E y.ar.length F) 67 (0,0))).below C (DX.o.alloc _).lt;obtain⟨dM,jY,eQ,jZ,gW,oH,gX,oI,jM,yw,jO,yx,jP,yz,jQ,yA⟩:=ag.z8 B6;go_wp2_with fail;refine bodyPost_ret (v:=.agg #[cA cB 4,cA cB 1,cC ⟨#[]⟩,cA cB 0,cA cB 0,cC ⟨#[]⟩,cD none 0 0,cD (some ⟨o.heap.size,0,none⟩) 1 1]) (by simp[results,Tryz.results291,go_sem,dM,eQ,gW,gX,jM,jO,jP,jQ]) rfl ?_;rw[j];exact sO (L:=W.heap.size) (QO 1 (Je.o.imp (λ k hk _=>by omega)) C (λ k hk=>by omega)) am a3 ((xX.alloc _).below C) (((ng.o.trans f).alloc _).trans (Kp.of C))
end Go.Proofs.YtcnagconagpkcaaGreatDoor
