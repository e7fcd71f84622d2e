/- Lemmas. -/
import Derived.Test.YtcnagconagpkcaaGreatDoorZ17
set_option maxHeartbeats 8000000
set_option maxRecDepth 100000
open Go.Value renaming int->cx, string->cA, slice->cB, pointer->cC
open Go.IntKind renaming i64->cz
open Go.Obj renaming cells->cD
open Go.AllReady renaming cons->cE, nil->cF
open Nat renaming le_refl->cG, zero_le->cH, lt_of_lt_of_le->cI
open List renaming take_succ_eq_append_getElem->cJ, take_of_length_le->cK
namespace Go.Proofs.YtcnagconagpkcaaGreatDoor
open Go.RowKit Vtx
attribute [local go_sem ↓] Go.wp_at_zero Go.wp_at_succ
theorem JV (EJ:FuncId) (Ze Na:NT) (a9 b9:Int) (TB:List (ByteArray × Int)) (Z:Nat) (aa:TB.length=Z) (cb:Z<=3) (aE:(TB.all λ d=>decide (d.1.data.toList≠[]))=true) (a4:∀ l,rQ l TB=iy a9 b9 l) (UX:∀ (a:Array Value) (W:World),(callFunc EJ a).run Tryz.prog W = .ok (.enter EJ a) W) (n9:Nat) (hE:∀ Q l,iy a9 b9 l=0->Pz n9 Na Q l = .ok Q l) (hN:∀ Q l,iy a9 b9 l≠0->Pz n9 Na Q l=(Pz n9 Ze [] l.tail).bind λ bL l1=>Pz n9 Na [kJ (iy a9 b9 l) (Q ++ bL)] l1) (g:Nat) (s:ByteArray) (i:Nat) (w:World) (bS:n9=s.data.toList.length) (h:aT w g s i) (hm:TM w g) (L:List Tok) (hL:wordsOf s.data.toList i=L) (t:Nat) (ht:t≠g) (hT:ah w t 359 (mM TB).toArray) (hP:∀ L',L'.length<=L.length->fH EJ Ze s L') :
  Calls Tryz.prog 313 #[cC (some ⟨g,0,none⟩),cB (some ⟨t,0,none⟩) Z Z,.func (.func EJ) #[cC (some ⟨g,0,none⟩)] #[]] w λ e w'=>wG w g s ((Pz s.data.toList.length Ze [] L).bind λ Q l1=>Pz s.data.toList.length Na Q l1) e w':=by
 have JA:=qh hP;subst bS;have M:=qh aa;have Tc:=qh aE;have bX:=qh a4;have bs:=qh hE;have ay:=qh hN;clear aa aE a4 hE hN;have bE:=h.b.lt;have H1:=qh (λ W hp hm=>hP L (cG _) g i W hp hm hL);have HM:=qh hm;obtain⟨r,hr⟩:=af (Pz s.data.toList.length Ze [] L);rw[hr] at H1 ⊢;have HR:=qh hr;have nV:=qh h;have I:=qh hT;have a7:=qh ht;clear hr hP h hm hT ht;go_enter Tryz.func313,Tryz.ntmps313;go_wp2_with fail;obtain⟨W,hW,av,BR,-,bl,-⟩:=fB g w;have iY:=qh (show aT W g s i by rw[hW];exact nV.o.alloc _);rw[<- hW];clear hW;refine (H1.o W iY.o (HM.o.kp av)).mono ?_;cases r with
 | err k =>
  rintro e p ⟨rfl,E⟩;go_wp2_with fail;exact⟨rfl,rfl,av.trans E⟩
 | ok Q l1 =>
  rintro e p ⟨x,i1,cj,rfl,rfl,rfl,a3,aR,E⟩;have EC:=qh a3;obtain⟨bk,bD,bQ,bR,xJ,xK,aL⟩:=a3;rename_i A1 c1 A2 c2 Pn;clear xJ xK aL bk bD bQ bR;have o8:(ai x A1 c1 A2 c2).toArray = (BC x A1 c1 A2 x.ar.length c2):=rfl;rw[o8];clear o8;have B1:ZB p w.heap.size:=by (try unfold ZB);unfold ah;rw[E.block _ BR.lt (λ e=>by injection e with e;omega)];exact BR
  have cf:=E.size;have Nb:=qh aR;clear BR aR;go_wp2_with fail;obtain⟨Y,n⟩:=aC (p.alloc (.cells (BC x A1 c1 A2 x.ar.length c2) 67 (0,0)));have MZ:=qh (show Kp g w Y by rw[n];exact (av.trans E).alloc _);have ce:=qh (show dN (λ b=>W.heap.size<=b) p Y by rw[n];exact dN.of ((Below.refl _ _).alloc (cG _) _));have zK:=qh (show aT Y g s i1 by rw[n];exact Nb.o.alloc _);have BA:=qh (show ZB Y w.heap.size by rw[n];exact B1.alloc _);have bm:=qh (show ah Y p.heap.size 67 (BC x A1 c1 A2 x.ar.length c2) by rw[n];exact ah.new p _ _);have bi:=qh (show dD Y (λ b=>W.heap.size<=b/\b≠p.heap.size) Y.heap.size x (ai x A1 c1 A2 c2) by
   have u:=EC.o.imp (q:=λ b=>W.heap.size<=b/\b≠p.heap.size) (λ k O hl=>⟨O,by omega⟩);rw[n];exact (u.keep (dN.of ((Below.refl _ _).alloc (cG _) _))).up (by simp))
  have b1:Y.heap.size=p.heap.size+1:=by rw[n];simp
  have ca:=qh (show ah Y t 359 (mM TB).toArray by
   have u:=MZ.o.block t I.o.lt (λ e=>a7.o (by injection e))
   (try unfold ZB);unfold ah
   rw[u];exact I.o)
  have b0:t<w.heap.size:=I.o.lt;rw[<- n];clear n B1;obtain⟨R,hR⟩:=af (Pz s.data.toList.length Na [x] (wordsOf s.data.toList i1));have bt:=qh hR.symm;have Eb:((yD.ok [x] (wordsOf s.data.toList i1)).bind λ Q l1=>Pz s.data.toList.length Na Q l1)=R:=hR;have HG:=qh Eb;have WJ:=qh (xH HR.o);clear Eb hR;go_loopw [8,10,15] (λ _ _ _ wr=>∃ (y:Ex) (A A':Option Addr) (c c' B:Nat),Hid (ah wr p.heap.size 67 (BC y A c A' y.ar.length c'))/\Hid (dD wr (λ b=>W.heap.size<=b/\b≠p.heap.size) wr.heap.size y (ai y A c A' c'))/\Hid (aT wr g s B)/\Hid (Kp g w wr)/\Hid (ZB wr w.heap.size)/\Hid (R=Pz s.data.toList.length Na [y] (wordsOf s.data.toList B))/\Hid ((wordsOf s.data.toList B).length<=L.length)) (λ _ _ _ wr=>acx wr g s)
  case atStart=>exact⟨x,A1,A2,c1,c2,i1,bm,bi,zK,MZ,BA,bt,WJ⟩
  case round =>
   obtain⟨y,A,A',c,c',B,am,HY,VL,O8,Dh,Rw,LX⟩:=hrel;have bd:=qh (show ah wr t 359 (mM TB).toArray by
    have u:=O8.o.block t I.o.lt (λ e=>a7.o (by injection e))
    (try unfold ZB);unfold ah
    rw[u];exact I.o)
   have a1:t<wr.heap.size:=bd.o.lt;have aD:=qh (λ (W':World) (hp:aT W' g s B) (word:ByteArray) (hw:word.data.toList≠[])=>(show Calls Tryz.prog 289 #[cC (some ⟨g,0,none⟩),cA word] W' λ e w'=>e = .returned (.bool (ni (wordsOf s.data.toList B) word.data.toList))/\W'=w' from by
    have u:=xI g s B W' hp word.data.toList hw
    rwa [Y9] at u))
   obtain⟨LW,aw⟩:=af (wordsOf s.data.toList B);have qO:=qh aw;rw[aw] at aD;clear aw;go_wp2_with fail;go_loopw [8,10,15] (λ op _ ix wz=>∃ k:Nat,∃ o:Int,k<=Z/\ix = cx cz k/\op = cx cz o/\Hid (o=rQ LW (TB.take k))/\IY wr wz) (λ _ _ ix _=>Z - (intOf ix).toNat)
   case atStart=>exact⟨0,0,cH _,rfl,rfl,qh rfl,Below.refl _ _⟩
   case round =>
    obtain⟨k,o,O,rfl,rfl,an,f⟩:=hrel;have iT:=f.size;have al:=qh (VL.o.below f);by_cases Zo:k<Z
    .have C:k<TB.length:=by rw[M.o];exact Zo
     obtain⟨ad,ci,ak,-,ao,z⟩:=(xA (bd.o.below f a1) (cI a1 iT) (by rw[M.o];unfold maxLen;omega)).at_ C;injection ak with ak;subst ak;obtain⟨d,iW⟩:=af (TB[k]);have bc:d∈TB:=by rw[<- iW];exact List.getElem_mem C
     have ae:=qh (show rQ LW (TB.take (k+1))=if ni LW d.1.data.toList then d.2 else rQ LW (TB.take k) by rw[cJ C,iW,VM]);rw[iW] at ao;have aW:=qh Zo;have ab:d.1.data.toList≠[]:=by
      have u:=Tc.o;have h2:=List.all_eq_true.1 u d bc
      rwa [decide_eq_true_iff] at h2
     obtain⟨dw,mO⟩:=d;have zA:ci = [cA dw,cx cz mO]:=ao;subst zA;have kC:wr.cell? ⟨t,k*2,none⟩=some (cA dw):=by have h:=z 0 _ rfl;simpa [addr_add] using h
     have kT:wr.cell? ⟨t,k*2+1,none⟩=some (cx cz mO):=by have h:=z 1 _ rfl;simpa [addr_add] using h
     have cn:(0:Int)<=(k:Nat):=by omega
     have E:((k:Nat):Int)<((Z:Nat):Int):=by omega
     have ap:=qh (aD.o (wr.alloc (cD #[cA dw,cx cz mO] 359 (0,0))) (al.o.alloc _) dw ab);clear ao z iW bc C ab;obtain⟨b,hb⟩:=af (ni LW dw.data.toList);rw[show ni LW (dw,mO).1.data.toList=b from hb] at ae;rw[hb] at ap;clear hb;cases b
     .go_wp2_with (go_at_call 289;(with_reducible refine ap.o.mono ?_);rintro e w3 ⟨rfl,rfl⟩);go_roundw
      case rel=>exact⟨k+1,o,aW.o,by go_num,rfl,qh (by rw[ae.o,<- an.o];rfl),f.alloc iT _⟩
      case measure =>
       have:=aW.o;simp[intOf];omega
     .go_wp2_with (go_at_call 289;(with_reducible refine ap.o.mono ?_);rintro e w3 ⟨rfl,rfl⟩);go_roundw
      case rel=>exact⟨k+1,mO,aW.o,by go_num,rfl,qh (by rw[ae.o];rfl),f.alloc iT _⟩
      case measure =>
       have:=aW.o;simp[intOf];omega
    .have G:=qh (show o=iy a9 b9 LW by
      have h:=an.o;rw[cK (show TB.length<=k by rw[M.o];omega)] at h;rw[h,bX.o])
     clear an;have bb:=qh (am.o.below f am.o.lt);have rU:=qh (Dh.o.below f Dh.o.lt);have a8:=qh ((HY.o.keep (dN.of f)).up f.size);have jA:=qh (O8.o.trans (Kp.of f));by_cases ho:o=0
     .subst ho;have B2:=bb.o;have B3:=rU.o;obtain⟨XO,bA,bw,bK,bq,bN,bj,bn⟩:=ah.c8 B2;obtain⟨dO,kD,eH,kE,ik,oV,iq,oW,jK,yQ,jL,yR,jM,yS,jO,yT⟩:=ah.z8 B3;go_wp2_with fail;refine bodyPost_ret (v:=.agg (BC y A c A' y.ar.length c')) (by simp[results,Tryz.results313,go_sem,dO,eH,ik,iq,jK,jL,jM,jO]) rfl ?_;have D:R = .ok [y] (wordsOf s.data.toList B):=by rw[Rw.o,bs.o _ _ (by rw[qO.o];exact G.o.symm)]
      rw[HG.o,D];exact sZ (a8.o.imp (λ k O _=>O.1)) bl bE al.o jA.o
     .have aM:=qh ho;have bo:(o == 0)=false:=by simp[ho]
      have ac:=rq (s:=s) (i:=B) (by rw[qO.o];exact G9 (by rw[<- G.o];exact ho));have HN:=qh (next_any g s B wr al.o);obtain⟨i3,a5⟩:=af (aS s B+(aO s B).length);rw[a5] at HN ac;have wH:=qh ac;clear a5 ac ho;go_upto_region 12 with (go_at_call 254;(with_reducible refine HN.o.mono ?_);rintro e w4 ⟨rfl,sD,a0⟩;have wI:=qh sD;have nS:=qh a0;clear sD a0);obtain⟨r2,ar⟩:=af (Pz s.data.toList.length Ze [] (wordsOf s.data.toList i3));have V:=qh (λ W' (hp:aT W' g s i3) hm=>ar▸JA.o (wordsOf s.data.toList i3) (by have:=wH.o.2;have:=LX.o;rw[qO.o] at *;omega) g i3 W' hp hm rfl);have aq:=qh ar;have Es:=qh (HM.o.kp (jA.o.trans nS.o));have P:=qh (bb.o.kp nS.o (by omega));have tq:=qh (rU.o.kp nS.o (by omega));have bO:=qh (a8.o.Zm nS.o (λ k O=>by omega));have be:=qh nS.o.size;clear ar;have B4:=P.o;obtain⟨XO,bA,bw,bK,bq,bN,bj,bn⟩:=ah.c8 B4;cases r2 with
      | err k2 =>
       have D:R = .err k2:=by rw[Rw.o,ay.o _ _ (by rw[qO.o,<- G.o];exact aM.o),<- wH.o.1,aq.o];rfl
       have jB:=qh D;clear D;refine wp_region_any (by kernel_rfl) ?_;change wpAny _ _ _ _ _ _ _ (World.drew _);refine wpAny_take (i:=0) (v:=?v1) rfl (by kernel_rfl) (by kernel_rfl) (by kernel_rfl) (λ _ _ _ h=>h) (Or.inl ⟨by rfl,?y1⟩) ?r1
       case y1 =>
        intro w
        go_simp
        all_goals with_reducible rfl
       refine wpAny_take (i:=2) (v:=?v2) rfl (by kernel_rfl) (by kernel_rfl) (by kernel_rfl) (λ _ _ _ h=>h) (Or.inl ⟨by rfl,?y2⟩) ?r2
       case y2 =>
        intro w
        go_simp
        all_goals with_reducible rfl
       refine wpAny_ready (rs:=[1,3]) (by kernel_rfl) (by simp) ?_;refine cE rfl (λ K m=>?_) ?_
       go_simp
       refine m _ _ ?_;clear m K;refine df (i:=3) (by kernel_rfl) rfl (λ K m=>?_)
       go_simp
       go_wp2_with fail;refine (V.o _ (wI.o.below (Below.refl _ _).drew) (Es.o.below (Below.refl _ _).drew)).mono ?_;rintro e H ⟨rfl,j⟩;go_wp2_with fail;refine⟨rfl,?_⟩;rw[HG.o,jB.o];exact⟨rfl,(jA.o.trans nS.o).trans ((Kp.of (Below.refl _ _).drew).trans j)⟩;refine cE rfl (λ K m=>?_) cF
       go_simp
       go_wp2_with fail;refine (V.o _ (wI.o.below (Below.refl _ _).drew) (Es.o.below (Below.refl _ _).drew)).mono ?_;rintro e H ⟨rfl,j⟩;go_wp2_with fail;refine⟨rfl,?_⟩;rw[HG.o,jB.o];exact⟨rfl,(jA.o.trans nS.o).trans ((Kp.of (Below.refl _ _).drew).trans j)⟩
      | ok es2 l2 =>
       refine wp_region_any (by kernel_rfl) ?_;change wpAny _ _ _ _ _ _ _ (World.drew _);refine wpAny_take (i:=0) (v:=?v3) rfl (by kernel_rfl) (by kernel_rfl) (by kernel_rfl) (λ _ _ _ h=>h) (Or.inl ⟨by rfl,?y3⟩) ?r3
       case y3 =>
        intro w
        go_simp
        all_goals with_reducible rfl
       refine wpAny_take (i:=2) (v:=?v4) rfl (by kernel_rfl) (by kernel_rfl) (by kernel_rfl) (λ _ _ _ h=>h) (Or.inl ⟨by rfl,?y4⟩) ?r4
       case y4 =>
        intro w
        go_simp
        all_goals with_reducible rfl
       refine wpAny_ready (rs:=[1,3]) (by kernel_rfl) (by simp) ?_;refine cE rfl (λ K m=>?_) ?_
       go_simp
       refine m _ _ ?_;clear m K;refine df (i:=3) (by kernel_rfl) rfl (λ K m=>?_)
       go_simp
       go_wp2_with fail;refine (V.o _ (wI.o.below (Below.refl _ _).drew) (Es.o.below (Below.refl _ _).drew)).mono ?_;rintro e H ⟨y2,i4,bh,rfl,rfl,rfl,J,vZ,j⟩;have JW:=qh J;obtain⟨AZ,N,ax,LY,uY,uZ,ve⟩:=J;rename_i T U X S LZ;clear uY uZ ve AZ N ax LY;have nK:(ai y2 T U X S).toArray = (BC y2 T U X y2.ar.length S):=rfl;rw[nK];clear nK;have B5:=(P.o.below (Below.refl _ _).drew P.o.lt).kp j (by omega);obtain⟨Fq,Fv,bB,bf,bv,bp,bx,br⟩:=ah.c8 B5;go_wp2_with fail;rotate_left;refine cE rfl (λ K m=>?_) cF
       go_simp
       go_wp2_with fail;refine (V.o _ (wI.o.below (Below.refl _ _).drew) (Es.o.below (Below.refl _ _).drew)).mono ?_;rintro e H ⟨y2,i4,bh,rfl,rfl,rfl,J,vZ,j⟩;have JW:=qh J;obtain⟨AZ,N,ax,LY,uY,uZ,ve⟩:=J;rename_i T U X S LZ;clear uY uZ ve AZ N ax LY;have nK:(ai y2 T U X S).toArray = (BC y2 T U X y2.ar.length S):=rfl;rw[nK];clear nK;have B5:=(P.o.below (Below.refl _ _).drew P.o.lt).kp j (by omega);obtain⟨Fq,Fv,bB,bf,bv,bp,bx,br⟩:=ah.c8 B5;go_wp2_with fail;refine df (i:=1) (by kernel_rfl) rfl (λ K m=>?_)
       go_simp
       refine m _ _ ?_;clear m K;rotate_left
       all_goals
        refine df (i:=4) (by kernel_rfl) rfl (λ K m=>?_)
        go_simp
        refine m _ _ ?_;clear m K;refine df (i:=5) (by kernel_rfl) rfl (λ K m=>?_)
        go_simp
        go_wp2_with fail;refine (iI o _ 2 2 _).mono ?_;rintro e w6 ⟨rfl,F⟩;have B6:=(B5.alloc (cD #[cx cz y.k,cx cz y.op,cA y.nm,cx cz y.v.k,cx cz y.v.n,cA y.v.s,cB A y.v.l.length c,cB A' y.ar.length c',cx cz y2.k,cx cz y2.op,cA y2.nm,cx cz y2.v.k,cx cz y2.v.n,cA y2.v.s,cB T y2.v.l.length U,cB X y2.ar.length S] 67 (0,0))).below F (B5.alloc _).lt;obtain⟨kV,cc,b5,cw,ck,cl,co,cs,b2,b6,b3,cv,cp,cr,ch,b7⟩:=ah.z8 B6;go_wp2_with fail;refine df (i:=6) (by kernel_rfl) rfl (λ K m=>?_)
        go_simp
        refine m _ _ ?_;clear m K;refine wpAny_done (by kernel_rfl) ?_ _;have N:=j.size;have b4:w4.heap.size<=H.heap.size:=by simpa using N
        have cu:=be.o;have ct:=f.size;have cg:=am.o.lt;have cq:g<H.heap.size:=vZ.b.lt;have a6:=qh (show aT (kZ w6 p.heap.size (cx cz 4) (cx cz o) (cA ⟨#[]⟩) (cx cz 0) (cx cz 0) (cA ⟨#[]⟩) (cB none 0 0) (cB (some ⟨H.heap.size,0,none⟩) 2 2)) g s i4 from ((vZ.alloc (cD #[cx cz y.k,cx cz y.op,cA y.nm,cx cz y.v.k,cx cz y.v.n,cA y.v.s,cB A y.v.l.length c,cB A' y.ar.length c',cx cz y2.k,cx cz y2.op,cA y2.nm,cx cz y2.v.k,cx cz y2.v.n,cA y2.v.s,cB T y2.v.l.length U,cB X y2.ar.length S] 67 (0,0))).below F).kp (fJ _ _ _ _ _ _ _ _ _ _ g (by omega)));have LM:=qh (show Kp g w (kZ w6 p.heap.size (cx cz 4) (cx cz o) (cA ⟨#[]⟩) (cx cz 0) (cx cz 0) (cA ⟨#[]⟩) (cB none 0 0) (cB (some ⟨H.heap.size,0,none⟩) 2 2)) from uV ((((jA.o.trans nS.o).trans ((Kp.of (Below.refl _ _).drew).trans j)).alloc (cD #[cx cz y.k,cx cz y.op,cA y.nm,cx cz y.v.k,cx cz y.v.n,cA y.v.s,cB A y.v.l.length c,cB A' y.ar.length c',cx cz y2.k,cx cz y2.op,cA y2.nm,cx cz y2.v.k,cx cz y2.v.n,cA y2.v.s,cB T y2.v.l.length U,cB X y2.ar.length S] 67 (0,0))).trans (Kp.of F)) (by omega) _ _ _ _ _ _ _ _);have Ae:=qh (show ah (kZ w6 p.heap.size (cx cz 4) (cx cz o) (cA ⟨#[]⟩) (cx cz 0) (cx cz 0) (cA ⟨#[]⟩) (cB none 0 0) (cB (some ⟨H.heap.size,0,none⟩) 2 2)) w.heap.size 67 #[cx cz 0,cx cz 0,cA ⟨#[]⟩,cx cz 0,cx cz 0,cA ⟨#[]⟩,cB none 0 0,cB none 0 0] by
         have u:=((((tq.o.below (Below.refl _ _).drew tq.o.lt).kp j (by omega)).alloc (cD #[cx cz y.k,cx cz y.op,cA y.nm,cx cz y.v.k,cx cz y.v.n,cA y.v.s,cB A y.v.l.length c,cB A' y.ar.length c',cx cz y2.k,cx cz y2.op,cA y2.nm,cx cz y2.v.k,cx cz y2.v.n,cA y2.v.s,cB T y2.v.l.length U,cB X y2.ar.length S] 67 (0,0))).below F (by have:=F.size;simp at *;omega))
         (try unfold ZB);unfold ah
         rw[fJ _ _ _ _ _ _ _ _ _ _ _ (by omega)];exact u)
        have bg:=qh (EO (b:=p.heap.size) (Zl o (((bO.o.keep (dN.of (Below.refl _ _).drew)).up (by simp)).Zm j (λ k O=>by omega)) (JW.o.imp (λ k O _=>by simp at O;exact⟨by omega,by omega⟩)) F (λ k O=>⟨by omega,by omega⟩)) (λ k O=>O.2) (cx cz 4) (cx cz o) (cA ⟨#[]⟩) (cx cz 0) (cx cz 0) (cA ⟨#[]⟩) (cB none 0 0) (cB (some ⟨H.heap.size,0,none⟩) 2 2));have a2:R=Pz s.data.toList.length Na [kJ o [y,y2]] (wordsOf s.data.toList i4):=by
         rw[Rw.o,ay.o _ _ (by rw[qO.o,<- G.o];exact aM.o),qO.o,<- G.o,<- qO.o,<- wH.o.1,aq.o];rfl
        have OW:=qh a2;have ba:=qh (show (wordsOf s.data.toList i4).length<(wordsOf s.data.toList B).length by
         have u:=xH aq.o;have h2:=wH.o.2;omega)
        clear a2
        try go_wp2_with fail
        go_roundw
        case rel=>exact⟨kJ o [y,y2],none,some ⟨H.heap.size,0,none⟩,0,2,i4,qh (Bo B6 _ _ _ _ _ _ _ _),bg,a6,LM,Ae,OW,qh (by have u:=ba.o;have h2:=LX.o;omega)⟩
        case measure =>
         have u:acx (kZ w6 p.heap.size (cx cz 4) (cx cz o) (cA ⟨#[]⟩) (cx cz 0) (cx cz 0) (cA ⟨#[]⟩) (cB none 0 0) (cB (some ⟨H.heap.size,0,none⟩) 2 2)) g s<(wordsOf s.data.toList B).length:=by rw[Zk a6.o];exact ba.o
         have h3:=Zk VL.o;rw[<- h3] at u;exact u
theorem RG (g:Nat) (s:ByteArray) (i:Nat) (w:World) (h:aT w g s i) (f:TM w g) (L:List Tok) (d:wordsOf s.data.toList i=L) (t:Nat) (m:t≠g) (k:ah w t 359 (mM jf).toArray) (j:∀ c,c.length<=L.length->fH 314 .product s c) :
  Calls Tryz.prog 313 #[cC (some ⟨g,0,none⟩),cB (some ⟨t,0,none⟩) 2 2,.func (.func 314) #[cC (some ⟨g,0,none⟩)] #[]] w λ e w'=>wG w g s ((Pz s.data.toList.length .product [] L).bind λ b n=>Pz s.data.toList.length .Eo b n) e w':=
 JV 314 .product .Eo 15 16 jf 2 rfl (by decide) (by decide) VN (λ a W=>by simp[callFunc,go_sem,Tryz.func314,Tryz.f314]) s.data.toList.length (λ b l h=>by
  rw[iR];dsimp only[iP];rw[if_pos h]) (λ b l h=>by
  rw[iR];dsimp only[iP];rw[if_neg h]) g s i w rfl h f L d t m k j
theorem Pq (g:Nat) (s:ByteArray) (i:Nat) (w:World) (h:aT w g s i) (f:TM w g) (L:List Tok) (d:wordsOf s.data.toList i=L) (t:Nat) (m:t≠g) (k:ah w t 359 (mM jg).toArray) (j:∀ c,c.length<=L.length->fH 317 .minus s c) :
  Calls Tryz.prog 313 #[cC (some ⟨g,0,none⟩),cB (some ⟨t,0,none⟩) 3 3,.func (.func 317) #[cC (some ⟨g,0,none⟩)] #[]] w λ e w'=>wG w g s ((Pz s.data.toList.length .minus [] L).bind λ b n=>Pz s.data.toList.length .jT b n) e w':=
 JV 317 .minus .jT 17 19 jg 3 rfl (by decide) (by decide) VO (λ a W=>by simp[callFunc,go_sem,Tryz.func317,Tryz.f317]) s.data.toList.length (λ b l h=>by
  rw[iR];dsimp only[iP];rw[if_pos h]) (λ b l h=>by
  rw[iR];dsimp only[iP];rw[if_neg h]) g s i w rfl h f L d t m k j
theorem Zp (s:ByteArray) (L:List Tok) (h:∀ Q,Q.length<=L.length->fH 314 .product s Q):fH 304 .sum s L:=by
 intro g i w p O hL;have n:=qh (λ W t (z:aT W g s i) (q:TM W g) (ht:t≠g) hT=>RG g s i W z q L hL t ht hT h);rw[show ((Pz s.data.toList.length .product [] L).bind λ T M=>Pz s.data.toList.length .Eo T M)=Pz s.data.toList.length .sum [] L from by rw[iR _ .sum];rfl] at n;have nV:=qh p;have HM:=qh O;have B:=p.b.lt;obtain⟨r,P⟩:=af (Pz s.data.toList.length .sum [] L);rw[P] at n ⊢;clear p O P;go_enter Tryz.func304,Tryz.ntmps304;go_upto_region 1 with (fail);obtain⟨W,C,G,J,-,X,-⟩:=fB g w;have R:=qh (show aT W g s i by rw[C];exact nV.o.alloc _);rw[<- C];clear C;go_wp2_with fail;refine (VQ W).mono ?_;rintro e K ⟨rfl,c,a⟩;have y:=qh c;have Z:=qh (R.o.below a);have j:=qh (G.trans (Kp.of a));have u:=J.below a J.lt;have ab:=a.size;have Y:g<W.heap.size:=R.o.b.lt;clear c a;go_wp2_with fail;refine (n.o K W.heap.size Z.o (HM.o.kp j.o) (by omega) y.o).mono ?_;cases r with
 | err k =>
  rintro e N ⟨rfl,b⟩;go_wp2_with fail;exact⟨rfl,rfl,j.o.trans b⟩
 | ok T M =>
  rintro e N ⟨x,i1,aa,rfl,rfl,rfl,f,m,b⟩;have EC:=qh f;obtain⟨l,A,H,I,xJ,xK,d⟩:=f;rename_i F o D E Pn;clear xJ xK d l A H I;have S:(ai x F o D E).toArray = (BC x F o D x.ar.length E):=rfl;rw[S];clear S;have B1:ZB N w.heap.size:=u.kp b (by omega);obtain⟨dO,kD,eH,kE,ik,oV,iq,oW,U,yQ,jL,yR,jM,yS,V,yT⟩:=ah.z8 B1;go_wp2_with fail;refine bodyPost_ret (v:=.agg (BC x F o D x.ar.length E)) (by simp[results,Tryz.results304,go_sem,dO,eH,ik,iq,U,jL,jM,V]) rfl ?_;exact sZ (L:=K.heap.size) EC.o (by omega) B m (j.o.trans b)
theorem L8 (s:ByteArray) (L:List Tok) (h:∀ Q,Q.length<=L.length->fH 317 .minus s Q):fH 314 .product s L:=by
 intro g i w p O hL;have n:=qh (λ W t (z:aT W g s i) (q:TM W g) (ht:t≠g) hT=>Pq g s i W z q L hL t ht hT h);rw[show ((Pz s.data.toList.length .minus [] L).bind λ T M=>Pz s.data.toList.length .jT T M)=Pz s.data.toList.length .product [] L from by rw[iR _ .product];rfl] at n;have nV:=qh p;have HM:=qh O;have B:=p.b.lt;obtain⟨r,P⟩:=af (Pz s.data.toList.length .product [] L);rw[P] at n ⊢;clear p O P;go_enter Tryz.func314,Tryz.ntmps314;go_upto_region 1 with (fail);obtain⟨W,C,G,J,-,X,-⟩:=fB g w;have R:=qh (show aT W g s i by rw[C];exact nV.o.alloc _);rw[<- C];clear C;go_wp2_with fail;refine (VR W).mono ?_;rintro e K ⟨rfl,c,a⟩;have y:=qh c;have Z:=qh (R.o.below a);have j:=qh (G.trans (Kp.of a));have u:=J.below a J.lt;have ab:=a.size;have Y:g<W.heap.size:=R.o.b.lt;clear c a;go_wp2_with fail;refine (n.o K W.heap.size Z.o (HM.o.kp j.o) (by omega) y.o).mono ?_;cases r with
 | err k =>
  rintro e N ⟨rfl,b⟩;go_wp2_with fail;exact⟨rfl,rfl,j.o.trans b⟩
 | ok T M =>
  rintro e N ⟨x,i1,aa,rfl,rfl,rfl,f,m,b⟩;have EC:=qh f;obtain⟨l,A,H,I,xJ,xK,d⟩:=f;rename_i F o D E Pn;clear xJ xK d l A H I;have S:(ai x F o D E).toArray = (BC x F o D x.ar.length E):=rfl;rw[S];clear S;have B1:ZB N w.heap.size:=u.kp b (by omega);obtain⟨dO,kD,eH,kE,ik,oV,iq,oW,U,yQ,jL,yR,jM,yS,V,yT⟩:=ah.z8 B1;go_wp2_with fail;refine bodyPost_ret (v:=.agg (BC x F o D x.ar.length E)) (by simp[results,Tryz.results314,go_sem,dO,eH,ik,iq,U,jL,jM,V]) rfl ?_;exact sZ (L:=K.heap.size) EC.o (by omega) B m (j.o.trans b)
theorem Zq (s:ByteArray) (L:List Tok) (hN:∀ L',L'.length<L.length->fH 291 .not s L') (hS:∀ L',L'.length<=L.length->fH 304 .sum s L'):fH 291 .not s L:=by
 intro g i w S hm hL;have nV:=qh S;have HM:=qh hm;have a2:=S.b.lt;have O:=qh (iR s.data.toList.length .not [] L);obtain⟨R,hR⟩:=af (Pz s.data.toList.length .not [] L);rw[hR] at O ⊢;dsimp only[iP] at O;obtain⟨b,hb⟩:=af (ni L abS);have HI:=qh (λ (P:World) (S:aT P g s i)=>xI g s i P S abS (by decide));rw[hL,hb,show tb abS=⟨#[110,111,116]⟩ from rfl] at HI;have ng:=qh hb;clear S hm hR hb;cases b
 .have O:=qh (O.o.trans (if_neg (by rw[ng.o];decide)));obtain⟨r,hr⟩:=af (Pz s.data.toList.length .sum [] L);have H1:=qh (λ P (S:aT P g s i) hm=>hr▸hS L (cG _) g i P S hm hL);have br:=qh hr;rw[hr] at O;have Dq:=qh hS;clear hr hN hS;go_enter Tryz.func291,Tryz.ntmps291;go_upto_region 1 with (fail);obtain⟨W,hW,Z,BR,bf,al,-⟩:=fB g w;have iY:=qh (show aT W g s i by rw[hW];exact nV.o.alloc _);have vM:=qh (HM.o.kp Z);have mJ:=qh BR;rw[<- hW];clear hW BR;go_wp2_with (go_at_call 289;(with_reducible refine (HI.o _ iY.o).mono ?_);rintro e w2 ⟨rfl,rfl⟩);refine (H1.o W iY.o vM.o).mono ?_;cases r with
  | err k =>
   rintro e w1 ⟨rfl,ab⟩;go_wp2_with fail;refine⟨rfl,?_⟩;rw[O.o];exact⟨rfl,Z.trans ab⟩
  | ok es l1 =>
   rintro e w1 ⟨y,V,b1,rfl,rfl,rfl,bb,a9,ab⟩;have EC:=qh bb;obtain⟨bp,bD,bO,bQ,xJ,xK,a7⟩:=bb;rename_i G D E F Pn;clear xJ xK a7 bp bD bO bQ;have o8:(ai y G D E F).toArray = (BC y G D E y.ar.length F):=rfl;rw[o8];clear o8;have O:=qh (show R=if iy 4 11 (wordsOf s.data.toList V)=0 then .ok [y] (wordsOf s.data.toList V) else (Pz s.data.toList.length .sum [] (wordsOf s.data.toList V).tail).bind λ a4 l2=>.ok [kJ (iy 4 11 (wordsOf s.data.toList V)) ([y] ++ a4)] l2 from O.o);have b0:=ab.size;have Nb:=qh a9;have MZ:=qh (Z.trans ab);have BA:=qh (mJ.o.kp ab (by omega));have WJ:=qh (xH br.o);clear a9;go_upto_region 5 with (fail);obtain⟨W1,J⟩:=aC (w1.alloc (.cells (BC y G D E y.ar.length F) 67 (0,0)));have b3:W1.heap.size=w1.heap.size+1:=by rw[J];simp
   have zK:=qh (show aT W1 g s V by rw[J];exact Nb.o.alloc _);have Du:=qh (show Kp g w W1 by rw[J];exact MZ.o.alloc _);have Zr:=qh (show ZB W1 w.heap.size by rw[J];exact BA.o.alloc _);have xX:=qh (show ah W1 w1.heap.size 67 (BC y G D E y.ar.length F) by rw[J];exact ah.new w1 _ _);have bt:=qh (show dD W1 (λ b=>W.heap.size<=b) W1.heap.size y (ai y G D E F) by
    rw[J];exact (EC.o.keep (dN.of ((Below.refl _ _).alloc (cG _) _))).up (by simp))
   rw[<- J];clear J;go_wp2_with fail;refine (OA W1).mono ?_;rintro e wc ⟨ta,rfl,bd,I⟩;have Rh:=qh bd;have aR:=qh (zK.o.below I);have bh:=qh (Du.o.trans (Kp.of I));have aw:=qh (Zr.o.below I Zr.o.lt);have av:=qh (xX.o.below I xX.o.lt);have bg:=qh ((bt.o.keep (dN.of I)).up I.size);have bw:W1.heap.size<=wc.heap.size:=I.size;obtain⟨LW,a5⟩:=af (wordsOf s.data.toList V);have qO:=qh a5;have a6:=qh (λ (P:World) (S:aT P g s V) (word:ByteArray) (hw:word.data.toList≠[])=>(show Calls Tryz.prog 289 #[cC (some ⟨g,0,none⟩),cA word] P λ e w'=>e = .returned (.bool (ni (wordsOf s.data.toList V) word.data.toList))/\P=w' from by
    have h1:=xI g s V P S word.data.toList hw
    rwa [Y9] at h1))
   rw[a5] at O WJ a6;clear bd I a5;go_wp2_with fail;go_loopw [18,5] (λ ix _ wz=>∃ k:Nat,k<=8/\ix = cx cz k/\Hid (∀ d∈fE.take k,ni LW d.1.data.toList=false)/\IY wc wz) (λ ix _ _=>8 - (intOf ix).toNat)
   case atStart=>exact⟨0,cH _,rfl,qh (λ d h=>by simp at h),Below.refl _ _⟩
   case round =>
    obtain⟨k,hk,rfl,yt,B⟩:=hrel;have iT:=B.size;by_cases Zo:k<8
    .have H:k<fE.length:=Zo;obtain⟨ad,ci,aL,-,a0,T⟩:=(dU Rh.o B).at_ H;injection aL with aL;subst aL;obtain⟨d,iW⟩:=af (fE[k]);have a3:d∈fE:=by rw[<- iW];exact List.getElem_mem H
     have sQ:=qh (show fE.take (k+1)=fE.take k ++ [d] by rw[cJ H,iW]);have bl:=qh (show ni LW d.1.data.toList=true->iy 4 11 LW=d.2 from λ h=>by rw[<- iW];exact Ry H yt.o (by rw[iW];exact h));rw[iW] at a0;have aW:=qh Zo;have aE:d.1.data.toList≠[]:=by
      have h1:(fE.all λ d=>decide (d.1.data.toList≠[]))=true:=by decide
      have h2:=List.all_eq_true.1 h1 d a3
      rwa [decide_eq_true_iff] at h2
     obtain⟨dw,A⟩:=d;have zA:ci = [cA dw,cx cz A]:=a0;subst zA;obtain⟨kC,kT⟩:=H7 T;have b2:(0:Int)<=(k:Nat):=by omega
     have ry:(k:Int)<8:=by omega
     have bj:=qh (show A≠0 by
      have h1:(fE.all λ d=>decide (d.2≠0))=true:=by decide
      have h2:=List.all_eq_true.1 h1 _ a3
      rwa [decide_eq_true_iff] at h2)
     clear a0 T iW a3 H;go_upto_region 8 with (fail);obtain⟨Ws,ak⟩:∃ Ws,Ws=wr.alloc (cD #[cA dw,cx cz A] 359 (0,0)):=⟨_,rfl⟩;have N:IY wc Ws:=by rw[ak];exact B.alloc iT _
     have bm:=qh (show ah Ws wr.heap.size 359 #[cA dw,cx cz A] by rw[ak];exact ah.new wr _ _);have be:=qh (aR.o.below N);have bn:=qh (bh.o.trans (Kp.of N));rw[<- ak];clear ak kC kT;have BS:=bm.o;obtain⟨bB,BP⟩:=ah.c2 BS;have bX:g<wr.heap.size:=cI aR.o.b.lt iT;have a1:=qh (a6.o Ws be.o dw aE);obtain⟨b,hb⟩:=af (ni LW dw.data.toList);rw[show ni LW (dw,A).1.data.toList=b from hb] at bl;rw[hb] at a1;clear aE;cases b
     .have Dj:=qh (show ∀ d∈fE.take (k+1),ni LW d.1.data.toList=false by
       rw[sQ.o];intro x hx;rcases List.mem_append.1 hx with h | h
       .exact yt.o x h
       .rw[List.mem_singleton] at h;rw[h];exact hb)
      clear hb;go_wp2_with (go_at_call 289;(with_reducible refine a1.o.mono ?_);rintro e w3 ⟨rfl,rfl⟩);go_roundw
      case rel=>exact⟨k+1,aW.o,by go_num,Dj,N⟩
      case measure =>
       have:=aW.o;simp[intOf];omega
     .have aM:=qh (bl.o rfl);have Q:=rq (s:=s) (i:=V) (by rw[qO.o];intro e;rw[e] at hb;cases hb);have HN:=qh (next_any g s V Ws be.o);obtain⟨i3,bc⟩:=af (aS s V+(aO s V).length);rw[bc] at HN Q;have wH:=qh Q;clear bc Q hb;go_upto_region 10 with (first | (go_at_call 289;(with_reducible refine a1.o.mono ?_);rintro e w3 ⟨rfl,rfl⟩) | (go_at_call 254;(with_reducible refine HN.o.mono ?_);rintro e w4 ⟨rfl,sD,ba⟩;have wI:=qh sD;have nS:=qh ba;clear sD ba));obtain⟨r2,U⟩:=af (Pz s.data.toList.length .sum [] (wordsOf s.data.toList i3));have n:=qh (λ P (S:aT P g s i3) hm=>U▸Dq.o (wordsOf s.data.toList i3) (by have h1:=wH.o.2;rw[qO.o] at h1;have h2:=WJ.o;omega) g i3 P S hm rfl);have ac:=qh U;have Ja:=qh (bn.o.trans nS.o);have Es:=qh (HM.o.kp Ja.o);have He:=qh ((av.o.below N av.o.lt).kp nS.o (by omega));have tq:=qh ((aw.o.below N aw.o.lt).kp nS.o (by omega));have Hf:=qh (bm.o.kp nS.o (by have:=Du.o.size;omega));have bR:=qh (((bg.o.keep (dN.of N)).up N.size).Zm nS.o (λ k hk=>by omega));have b4:W.heap.size<=w4.heap.size:=by have:=nS.o.size;have:=N.size;have:=Du.o.size;have:=bw;omega
      clear U bB BP;have B4:=He.o;have bN:=Hf.o;obtain⟨XO,bA,bx,bE,bs,bL,bo,bq⟩:=ah.c8 B4;have BP:w4.cell? ⟨wr.heap.size,1,none⟩=some (cx cz A):=bN.cell 1;cases r2 with
      | err k2 =>
       have j:R = .err k2:=by rw[O.o,if_neg (by rw[aM.o];exact bj.o),<- qO.o,<- wH.o.1,ac.o];rfl
       have jB:=qh j;clear j;refine wp_region_any (by kernel_rfl) ?_;change wpAny _ _ _ _ _ _ _ (World.drew _);refine wpAny_take (i:=0) (v:=?v5) rfl (by kernel_rfl) (by kernel_rfl) (by kernel_rfl) (λ _ _ _ h=>h) (Or.inl ⟨by rfl,?y5⟩) ?r5
       case y5 =>
        intro w
        go_simp
        all_goals with_reducible rfl
       refine wpAny_take (i:=3) (v:=?v6) rfl (by kernel_rfl) (by kernel_rfl) (by kernel_rfl) (λ _ _ _ h=>h) (Or.inl ⟨by rfl,?y6⟩) ?r6
       case y6 =>
        intro w
        go_simp
        all_goals with_reducible rfl
       refine wpAny_ready (rs:=[1,2,4]) (by kernel_rfl) (by simp) ?_;refine cE rfl (λ K c=>?_) ?_
       go_simp
       refine c _ _ ?_;clear c K;refine wpAny_ready (rs:=[2,4]) (by kernel_rfl) (by simp) ?_;refine cE rfl (λ K c=>?_) ?_
       go_simp
       refine c _ _ ?_;clear c K;refine df (i:=4) (by kernel_rfl) rfl (λ K c=>?_)
       go_simp
       go_wp2_with fail;refine (n.o _ (wI.o.below (Below.refl _ _).drew) (Es.o.below (Below.refl _ _).drew)).mono ?_;rintro e o ⟨rfl,f⟩;go_wp2_with fail;refine⟨rfl,?_⟩;rw[jB.o];exact⟨rfl,Ja.o.trans ((Kp.of (Below.refl _ _).drew).trans f)⟩;refine cE rfl (λ K c=>?_) cF
       go_simp
       go_wp2_with fail;refine (n.o _ (wI.o.below (Below.refl _ _).drew) (Es.o.below (Below.refl _ _).drew)).mono ?_;rintro e o ⟨rfl,f⟩;go_wp2_with fail;refine⟨rfl,?_⟩;rw[jB.o];exact⟨rfl,Ja.o.trans ((Kp.of (Below.refl _ _).drew).trans f)⟩;refine cE rfl (λ K c=>?_) ?_
       go_simp
       refine c _ _ ?_;clear c K;refine wpAny_ready (rs:=[1,4]) (by kernel_rfl) (by simp) ?_;refine cE rfl (λ K c=>?_) ?_
       go_simp
       refine c _ _ ?_;clear c K;refine df (i:=4) (by kernel_rfl) rfl (λ K c=>?_)
       go_simp
       go_wp2_with fail;refine (n.o _ (wI.o.below (Below.refl _ _).drew) (Es.o.below (Below.refl _ _).drew)).mono ?_;rintro e o ⟨rfl,f⟩;go_wp2_with fail;refine⟨rfl,?_⟩;rw[jB.o];exact⟨rfl,Ja.o.trans ((Kp.of (Below.refl _ _).drew).trans f)⟩;refine cE rfl (λ K c=>?_) cF
       go_simp
       go_wp2_with fail;refine (n.o _ (wI.o.below (Below.refl _ _).drew) (Es.o.below (Below.refl _ _).drew)).mono ?_;rintro e o ⟨rfl,f⟩;go_wp2_with fail;refine⟨rfl,?_⟩;rw[jB.o];exact⟨rfl,Ja.o.trans ((Kp.of (Below.refl _ _).drew).trans f)⟩;refine cE rfl (λ K c=>?_) cF
       go_simp
       go_wp2_with fail;refine (n.o _ (wI.o.below (Below.refl _ _).drew) (Es.o.below (Below.refl _ _).drew)).mono ?_;rintro e o ⟨rfl,f⟩;go_wp2_with fail;refine⟨rfl,?_⟩;rw[jB.o];exact⟨rfl,Ja.o.trans ((Kp.of (Below.refl _ _).drew).trans f)⟩
      | ok a4 l2 =>
       refine wp_region_any (by kernel_rfl) ?_;change wpAny _ _ _ _ _ _ _ (World.drew _);refine wpAny_take (i:=0) (v:=?v7) rfl (by kernel_rfl) (by kernel_rfl) (by kernel_rfl) (λ _ _ _ h=>h) (Or.inl ⟨by rfl,?y7⟩) ?r7
       case y7 =>
        intro w
        go_simp
        all_goals with_reducible rfl
       refine wpAny_take (i:=3) (v:=?v8) rfl (by kernel_rfl) (by kernel_rfl) (by kernel_rfl) (λ _ _ _ h=>h) (Or.inl ⟨by rfl,?y8⟩) ?r8
       case y8 =>
        intro w
        go_simp
        all_goals with_reducible rfl
       refine wpAny_ready (rs:=[1,2,4]) (by kernel_rfl) (by simp) ?_;refine cE rfl (λ K c=>?_) ?_
       go_simp
       refine c _ _ ?_;clear c K;refine wpAny_ready (rs:=[2,4]) (by kernel_rfl) (by simp) ?_;refine cE rfl (λ K c=>?_) ?_
       go_simp
       refine c _ _ ?_;clear c K;refine df (i:=4) (by kernel_rfl) rfl (λ K c=>?_)
       go_simp
       go_wp2_with fail;refine (n.o _ (wI.o.below (Below.refl _ _).drew) (Es.o.below (Below.refl _ _).drew)).mono ?_;rintro e o ⟨a,i4,aa,rfl,rfl,rfl,l,vZ,f⟩;have JW:=qh l;obtain⟨AZ,m,p,LY,uY,uZ,ve⟩:=l;rename_i t u z q LZ;clear uY uZ ve AZ m p LY;have M:(ai a t u z q).toArray = (BC a t u z a.ar.length q):=rfl;rw[M];clear M;have B5:=(He.o.below (Below.refl _ _).drew He.o.lt).kp f (by omega);have Y:=(tq.o.below (Below.refl _ _).drew tq.o.lt).kp f (by omega);have X:=(Hf.o.below (Below.refl _ _).drew Hf.o.lt).kp f (by omega);have ay:o.cell? ⟨wr.heap.size,1,none⟩=some (cx cz A):=X.cell 1;have ar:(o.alloc (cD #[cx cz y.k,cx cz y.op,cA y.nm,cx cz y.v.k,cx cz y.v.n,cA y.v.s,cB G y.v.l.length D,cB E y.ar.length F,cx cz a.k,cx cz a.op,cA a.nm,cx cz a.v.k,cx cz a.v.n,cA a.v.s,cB t a.v.l.length u,cB z a.ar.length q] 67 (0,0))).cell? ⟨wr.heap.size,1,none⟩=some (cx cz A):=(X.alloc _).cell 1;obtain⟨Fq,Fv,aq,ae,ao,am,ap,an⟩:=ah.c8 B5;go_wp2_with fail;refine df (i:=5) (by kernel_rfl) rfl (λ K c=>?_)
       go_simp
       refine c _ _ ?_;clear c K;rotate_left;refine cE rfl (λ K c=>?_) cF
       go_simp
       go_wp2_with fail;refine (n.o _ (wI.o.below (Below.refl _ _).drew) (Es.o.below (Below.refl _ _).drew)).mono ?_;rintro e o ⟨a,i4,aa,rfl,rfl,rfl,l,vZ,f⟩;have JW:=qh l;obtain⟨AZ,m,p,LY,uY,uZ,ve⟩:=l;rename_i t u z q LZ;clear uY uZ ve AZ m p LY;have M:(ai a t u z q).toArray = (BC a t u z a.ar.length q):=rfl;rw[M];clear M;have B5:=(He.o.below (Below.refl _ _).drew He.o.lt).kp f (by omega);have Y:=(tq.o.below (Below.refl _ _).drew tq.o.lt).kp f (by omega);have X:=(Hf.o.below (Below.refl _ _).drew Hf.o.lt).kp f (by omega);have ay:o.cell? ⟨wr.heap.size,1,none⟩=some (cx cz A):=X.cell 1;have ar:(o.alloc (cD #[cx cz y.k,cx cz y.op,cA y.nm,cx cz y.v.k,cx cz y.v.n,cA y.v.s,cB G y.v.l.length D,cB E y.ar.length F,cx cz a.k,cx cz a.op,cA a.nm,cx cz a.v.k,cx cz a.v.n,cA a.v.s,cB t a.v.l.length u,cB z a.ar.length q] 67 (0,0))).cell? ⟨wr.heap.size,1,none⟩=some (cx cz A):=(X.alloc _).cell 1;obtain⟨Fq,Fv,aq,ae,ao,am,ap,an⟩:=ah.c8 B5;go_wp2_with fail;refine df (i:=2) (by kernel_rfl) rfl (λ K c=>?_)
       go_simp
       refine c _ _ ?_;clear c K;refine df (i:=5) (by kernel_rfl) rfl (λ K c=>?_)
       go_simp
       refine c _ _ ?_;clear c K;rotate_left;refine cE rfl (λ K c=>?_) ?_
       go_simp
       refine c _ _ ?_;clear c K;refine wpAny_ready (rs:=[1,4]) (by kernel_rfl) (by simp) ?_;refine cE rfl (λ K c=>?_) ?_
       go_simp
       refine c _ _ ?_;clear c K;refine df (i:=4) (by kernel_rfl) rfl (λ K c=>?_)
       go_simp
       go_wp2_with fail;refine (n.o _ (wI.o.below (Below.refl _ _).drew) (Es.o.below (Below.refl _ _).drew)).mono ?_;rintro e o ⟨a,i4,aa,rfl,rfl,rfl,l,vZ,f⟩;have JW:=qh l;obtain⟨AZ,m,p,LY,uY,uZ,ve⟩:=l;rename_i t u z q LZ;clear uY uZ ve AZ m p LY;have M:(ai a t u z q).toArray = (BC a t u z a.ar.length q):=rfl;rw[M];clear M;have B5:=(He.o.below (Below.refl _ _).drew He.o.lt).kp f (by omega);have Y:=(tq.o.below (Below.refl _ _).drew tq.o.lt).kp f (by omega);have X:=(Hf.o.below (Below.refl _ _).drew Hf.o.lt).kp f (by omega);have ay:o.cell? ⟨wr.heap.size,1,none⟩=some (cx cz A):=X.cell 1;have ar:(o.alloc (cD #[cx cz y.k,cx cz y.op,cA y.nm,cx cz y.v.k,cx cz y.v.n,cA y.v.s,cB G y.v.l.length D,cB E y.ar.length F,cx cz a.k,cx cz a.op,cA a.nm,cx cz a.v.k,cx cz a.v.n,cA a.v.s,cB t a.v.l.length u,cB z a.ar.length q] 67 (0,0))).cell? ⟨wr.heap.size,1,none⟩=some (cx cz A):=(X.alloc _).cell 1;obtain⟨Fq,Fv,aq,ae,ao,am,ap,an⟩:=ah.c8 B5;go_wp2_with fail;refine df (i:=5) (by kernel_rfl) rfl (λ K c=>?_)
       go_simp
       refine c _ _ ?_;clear c K;rotate_left;refine cE rfl (λ K c=>?_) cF
       go_simp
       go_wp2_with fail;refine (n.o _ (wI.o.below (Below.refl _ _).drew) (Es.o.below (Below.refl _ _).drew)).mono ?_;rintro e o ⟨a,i4,aa,rfl,rfl,rfl,l,vZ,f⟩;have JW:=qh l;obtain⟨AZ,m,p,LY,uY,uZ,ve⟩:=l;rename_i t u z q LZ;clear uY uZ ve AZ m p LY;have M:(ai a t u z q).toArray = (BC a t u z a.ar.length q):=rfl;rw[M];clear M;have B5:=(He.o.below (Below.refl _ _).drew He.o.lt).kp f (by omega);have Y:=(tq.o.below (Below.refl _ _).drew tq.o.lt).kp f (by omega);have X:=(Hf.o.below (Below.refl _ _).drew Hf.o.lt).kp f (by omega);have ay:o.cell? ⟨wr.heap.size,1,none⟩=some (cx cz A):=X.cell 1;have ar:(o.alloc (cD #[cx cz y.k,cx cz y.op,cA y.nm,cx cz y.v.k,cx cz y.v.n,cA y.v.s,cB G y.v.l.length D,cB E y.ar.length F,cx cz a.k,cx cz a.op,cA a.nm,cx cz a.v.k,cx cz a.v.n,cA a.v.s,cB t a.v.l.length u,cB z a.ar.length q] 67 (0,0))).cell? ⟨wr.heap.size,1,none⟩=some (cx cz A):=(X.alloc _).cell 1;obtain⟨Fq,Fv,aq,ae,ao,am,ap,an⟩:=ah.c8 B5;go_wp2_with fail;refine wpAny_ready (rs:=[1,5]) (by kernel_rfl) (by simp) ?_;refine cE rfl (λ K c=>?_) ?_
       go_simp
       refine c _ _ ?_;clear c K;refine df (i:=5) (by kernel_rfl) rfl (λ K c=>?_)
       go_simp
       refine c _ _ ?_;clear c K;rotate_left;refine cE rfl (λ K c=>?_) cF
       go_simp
       refine c _ _ ?_;clear c K;refine df (i:=1) (by kernel_rfl) rfl (λ K c=>?_)
       go_simp
       refine c _ _ ?_;clear c K;rotate_left;refine cE rfl (λ K c=>?_) cF
       go_simp
       go_wp2_with fail;refine (n.o _ (wI.o.below (Below.refl _ _).drew) (Es.o.below (Below.refl _ _).drew)).mono ?_;rintro e o ⟨a,i4,aa,rfl,rfl,rfl,l,vZ,f⟩;have JW:=qh l;obtain⟨AZ,m,p,LY,uY,uZ,ve⟩:=l;rename_i t u z q LZ;clear uY uZ ve AZ m p LY;have M:(ai a t u z q).toArray = (BC a t u z a.ar.length q):=rfl;rw[M];clear M;have B5:=(He.o.below (Below.refl _ _).drew He.o.lt).kp f (by omega);have Y:=(tq.o.below (Below.refl _ _).drew tq.o.lt).kp f (by omega);have X:=(Hf.o.below (Below.refl _ _).drew Hf.o.lt).kp f (by omega);have ay:o.cell? ⟨wr.heap.size,1,none⟩=some (cx cz A):=X.cell 1;have ar:(o.alloc (cD #[cx cz y.k,cx cz y.op,cA y.nm,cx cz y.v.k,cx cz y.v.n,cA y.v.s,cB G y.v.l.length D,cB E y.ar.length F,cx cz a.k,cx cz a.op,cA a.nm,cx cz a.v.k,cx cz a.v.n,cA a.v.s,cB t a.v.l.length u,cB z a.ar.length q] 67 (0,0))).cell? ⟨wr.heap.size,1,none⟩=some (cx cz A):=(X.alloc _).cell 1;obtain⟨Fq,Fv,aq,ae,ao,am,ap,an⟩:=ah.c8 B5;go_wp2_with fail;refine wpAny_ready (rs:=[1,2]) (by kernel_rfl) (by simp) ?_;refine cE rfl (λ K c=>?_) ?_
       go_simp
       refine c _ _ ?_;clear c K;refine df (i:=2) (by kernel_rfl) rfl (λ K c=>?_)
       go_simp
       refine c _ _ ?_;clear c K;refine df (i:=5) (by kernel_rfl) rfl (λ K c=>?_)
       go_simp
       refine c _ _ ?_;clear c K;rotate_left;refine cE rfl (λ K c=>?_) cF
       go_simp
       refine c _ _ ?_;clear c K;refine wpAny_ready (rs:=[1,5]) (by kernel_rfl) (by simp) ?_;refine cE rfl (λ K c=>?_) ?_
       go_simp
       refine c _ _ ?_;clear c K;refine df (i:=5) (by kernel_rfl) rfl (λ K c=>?_)
       go_simp
       refine c _ _ ?_;clear c K;rotate_left;refine cE rfl (λ K c=>?_) cF
       go_simp
       refine c _ _ ?_;clear c K;refine df (i:=1) (by kernel_rfl) rfl (λ K c=>?_)
       go_simp
       refine c _ _ ?_;clear c K;rotate_left
       all_goals
        refine df (i:=6) (by kernel_rfl) rfl (λ K c=>?_)
        go_simp
        go_wp2_with fail;refine (iI A _ 2 2 _).mono ?_;rintro e w6 ⟨rfl,C⟩;have B6:=(Y.alloc (cD #[cx cz y.k,cx cz y.op,cA y.nm,cx cz y.v.k,cx cz y.v.n,cA y.v.s,cB G y.v.l.length D,cB E y.ar.length F,cx cz a.k,cx cz a.op,cA a.nm,cx cz a.v.k,cx cz a.v.n,cA a.v.s,cB t a.v.l.length u,cB z a.ar.length q] 67 (0,0))).below C (Y.alloc _).lt;obtain⟨dO,kD,eH,kE,ik,oV,iq,oW,jK,yQ,jL,yR,jM,yS,jO,yT⟩:=ah.z8 B6;go_wp2_with fail;refine df (i:=7) (by kernel_rfl) rfl (λ K c=>?_)
        go_simp
        refine c _ _ ?_;clear c K;refine wpAny_done (by kernel_rfl) ?_ _;have m:=f.size;have bS:w4.heap.size<=o.heap.size:=by simpa using m
        have j:R = .ok [kJ A [y,a]] (wordsOf s.data.toList i4):=by rw[O.o,if_neg (by rw[aM.o];exact bj.o),aM.o,<- qO.o,<- wH.o.1,ac.o];rfl
        have jB:=qh j;clear j;go_wp2_with fail;refine bodyPost_ret (v:=.agg #[cx cz 4,cx cz A,cA ⟨#[]⟩,cx cz 0,cx cz 0,cA ⟨#[]⟩,cB none 0 0,cB (some ⟨o.heap.size,0,none⟩) 2 2]) (by simp[results,Tryz.results291,go_sem,dO,eH,ik,iq,jK,jL,jM,jO]) rfl ?_;rw[jB.o];exact sZ (L:=W.heap.size) (Zl A (((bR.o.keep (dN.of (Below.refl _ _).drew)).up (by simp)).Zm f (λ k hk=>by omega)) (JW.o.imp (λ k hk _=>by simp at hk;omega)) C (λ k hk=>by omega)) al a2 ((vZ.alloc (cD #[cx cz y.k,cx cz y.op,cA y.nm,cx cz y.v.k,cx cz y.v.n,cA y.v.s,cB G y.v.l.length D,cB E y.ar.length F,cx cz a.k,cx cz a.op,cA a.nm,cx cz a.v.k,cx cz a.v.n,cA a.v.s,cB t a.v.l.length u,cB z a.ar.length q] 67 (0,0))).below C) (((Ja.o.trans ((Kp.of (Below.refl _ _).drew).trans f)).alloc (cD #[cx cz y.k,cx cz y.op,cA y.nm,cx cz y.v.k,cx cz y.v.n,cA y.v.s,cB G y.v.l.length D,cB E y.ar.length F,cx cz a.k,cx cz a.op,cA a.nm,cx cz a.v.k,cx cz a.v.n,cA a.v.s,cB t a.v.l.length u,cB z a.ar.length q] 67 (0,0))).trans (Kp.of C))
    .have aD:∀ d∈fE,ni LW d.1.data.toList=false:=by
      have h:=yt.o
      rwa [cK (show fE.length<=k by show 8<=k;omega)] at h
     have j:R = .ok [y] (wordsOf s.data.toList V):=by rw[O.o,if_pos (VP aD),qO.o]
     have jB:=qh j;have B2:=av.o.below B av.o.lt;have B3:=aw.o.below B aw.o.lt;clear aD j;obtain⟨XO,bA,bx,bE,bs,bL,bo,bq⟩:=ah.c8 B2;obtain⟨dO,kD,eH,kE,ik,oV,iq,oW,jK,yQ,jL,yR,jM,yS,jO,yT⟩:=ah.z8 B3;go_wp2_with fail;refine bodyPost_ret (v:=.agg (BC y G D E y.ar.length F)) (by simp[results,Tryz.results291,go_sem,dO,eH,ik,iq,jK,jL,jM,jO]) rfl ?_;rw[jB.o];exact sZ (L:=W.heap.size) ((bg.o.keep (dN.of B)).up B.size) al a2 (aR.o.below B) (bh.o.trans (Kp.of B))
 .have O:=qh (O.o.trans (if_pos ng.o));have Q:=rq (s:=s) (i:=i) (by rw[hL];intro e;have h:=ng.o;rw[e] at h;cases h);have HN:=qh (λ W (S:aT W g s i)=>next_any g s i W S);obtain⟨i2,bk⟩:=af (aS s i+(aO s i).length);rw[bk] at HN Q;have wH:=qh Q;obtain⟨r2,U⟩:=af (Pz s.data.toList.length .not [] (wordsOf s.data.toList i2));have n:=qh (λ P (S:aT P g s i2) hm=>U▸hN (wordsOf s.data.toList i2) (by have:=wH.o.2;rw[hL] at this;omega) g i2 P S hm rfl);have ac:=qh U;have a8:=qh hL;clear U hN hS Q bk;go_enter Tryz.func291,Tryz.ntmps291;go_upto_region 1 with (fail);obtain⟨W,hW,Z,BR,bf,al,-⟩:=fB g w;have iY:=qh (show aT W g s i by rw[hW];exact nV.o.alloc _);have vM:=qh (HM.o.kp Z);have mJ:=qh BR;rw[<- hW];clear hW BR;go_wp2_with (first | (go_at_call 289;(with_reducible refine (HI.o _ iY.o).mono ?_);rintro e w3 ⟨rfl,rfl⟩) | (go_at_call 254;(with_reducible refine (HN.o _ iY.o).mono ?_);rintro e w2 ⟨rfl,bi,ax⟩;have bK:=qh bi;have bv:=qh ax;have jA:=qh (Z.trans ax);have rU:=qh (mJ.o.kp ax (by omega));clear bi ax));refine (n.o w2 bK.o (HM.o.kp jA.o)).mono ?_;have Hg:W.heap.size<=w2.heap.size:=bv.o.size;cases r2 with
  | err k2 =>
   rintro e o ⟨rfl,f⟩;have j:R = .err k2:=by rw[O.o,<- a8.o,<- wH.o.1];rw[ac.o];rfl
   go_wp2_with fail;refine⟨rfl,?_⟩;rw[j];exact⟨rfl,jA.o.trans f⟩
  | ok a4 l2 =>
   rintro e o ⟨y,i4,aa,rfl,rfl,rfl,l,vZ,f⟩;have JW:=qh l;obtain⟨AZ,m,p,LY,uY,uZ,ve⟩:=l;rename_i G D E F LZ;clear uY uZ ve AZ m p LY;have M:(ai y G D E F).toArray = (BC y G D E y.ar.length F):=rfl;rw[M];clear M;have j:R = .ok [kJ 1 [y]] (wordsOf s.data.toList i4):=by rw[O.o,<- a8.o,<- wH.o.1];rw[ac.o];rfl
   have zl:=qh (rU.o.kp f (by omega));have m:=f.size;go_wp2_with fail;refine (iI 1 _ 1 1 _).mono ?_;rintro e w6 ⟨rfl,C⟩;have B6:=(zl.o.alloc (.cells (BC y G D E y.ar.length F) 67 (0,0))).below C (zl.o.alloc _).lt;obtain⟨dO,kD,eH,kE,ik,oV,iq,oW,jK,yQ,jL,yR,jM,yS,jO,yT⟩:=ah.z8 B6;go_wp2_with fail;refine bodyPost_ret (v:=.agg #[cx cz 4,cx cz 1,cA ⟨#[]⟩,cx cz 0,cx cz 0,cA ⟨#[]⟩,cB none 0 0,cB (some ⟨o.heap.size,0,none⟩) 1 1]) (by simp[results,Tryz.results291,go_sem,dO,eH,ik,iq,jK,jL,jM,jO]) rfl ?_;rw[j];exact sZ (L:=W.heap.size) (RF 1 (JW.o.imp (λ k hk _=>by omega)) C (λ k hk=>by omega)) al a2 ((vZ.alloc _).below C) (((jA.o.trans f).alloc _).trans (Kp.of C))
end Go.Proofs.YtcnagconagpkcaaGreatDoor
