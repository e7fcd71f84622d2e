/- Lemmas. -/
import Derived.Test.YtcnagconagpkcaaGreatDoorZ18
set_option maxHeartbeats 8000000
set_option maxRecDepth 100000
open Go.Value renaming int->ck, string->cn, slice->co, pointer->cp, bool->cq
open Go.IntKind renaming i64->cl
open Nat renaming le_refl->cr, zero_le->ct
namespace Go.Proofs.YtcnagconagpkcaaGreatDoor
open Go.RowKit Vtx
attribute [local go_sem ↓] Go.wp_at_zero Go.wp_at_succ
theorem tu {w:World} {q:Nat->Prop} {x:Val} {A:Option Addr} {c:Nat} (f:Reads w w.heap.size 1 A x.l.length (bI cl x.l)) (a:∀ ad,A=some ad->q ad.block) (b:x.l.length<=maxLen) (d:x.s.size<=maxLen):dD w q w.heap.size (lD x) (ai (lD x) A c none 0):=
 dD.mk (e:=lD x) (cs:=[]) (show 0<=maxLen from ct _) d b (show 0<=maxLen from ct _) ⟨f,λ _=>a⟩ ⟨Reads.none_,λ _ ad e=>by cases e⟩ (λ i g=>absurd g (by simp[lD,Ex.ar]))
theorem RH (s:ByteArray) (L:List Tok) (hN:∀ L',L'.length<L.length->fH 317 .minus s L') (hS:fH 319 .cO s L):fH 317 .minus s L:=by
 intro g i w B hm hL;have nV:=qh B;have HM:=qh hm;have am:=B.b.lt;have n:=qh (iR s.data.toList.length .minus [] L);obtain⟨R,hR⟩:=af (Pz s.data.toList.length .minus [] L);rw[hR] at n ⊢;dsimp only[iP] at n;obtain⟨b,hb⟩:=af (ni L [45]);have HI:=qh (λ (S:World) (B:aT S g s i)=>xI g s i S B [45] (by decide));rw[hL,hb,show tb [45]=⟨#[45]⟩ from rfl] at HI;have ng:=qh hb;clear hR hb;cases b
 .have n:=qh (n.o.trans (if_neg (by rw[ng.o];decide)));have HC:=qh (λ S (B:aT S g s i) hm=>hS g i S B hm hL);rw[<- n.o] at HC;clear B hm hN hS;go_enter Tryz.func317,Tryz.ntmps317;go_upto_region 1 with (fail);obtain⟨W,z,l,I,M,D,-⟩:=fB g w;have G:=qh (show aT W g s i by rw[z];exact nV.o.alloc _);have vM:=qh (HM.o.kp l);have mJ:=qh I;rw[<- z];clear z I;go_wp2_with (go_at_call 289;(with_reducible refine (HI.o _ G.o).mono ?_);rintro e w2 ⟨rfl,rfl⟩);refine (HC.o W G.o vM.o).mono ?_;cases R with
  | err k =>
   rintro e w1 ⟨rfl,ak⟩;go_wp2_with fail;exact⟨rfl,rfl,l.trans ak⟩
  | ok es l1 =>
   rintro e w1 ⟨y,i1,bx,rfl,rfl,rfl,a4,bg,ak⟩;have EC:=qh a4;obtain⟨be,bk,Y,bo,xJ,xK,aR⟩:=a4;rename_i X F T U Pn;clear xJ xK aR be bk Y bo;have o8:(ai y X F T U).toArray = (BC y X F T y.ar.length U):=rfl;rw[o8];clear o8;have B1:=mJ.o.kp ak (by omega);obtain⟨dO,kD,eH,kE,ik,oV,iq,oW,jK,yQ,jL,yR,jM,yS,jO,yT⟩:=ah.z8 B1;go_wp2_with fail;refine bodyPost_ret (v:=.agg (BC y X F T y.ar.length U)) (by simp[results,Tryz.results317,go_sem,dO,eH,ik,iq,jK,jL,jM,jO]) rfl ?_;exact sZ EC.o D am bg (l.trans ak)
 .have n:=qh (n.o.trans (if_pos ng.o));have ap:=rq (s:=s) (i:=i) (by rw[hL];intro e;have h:=ng.o;rw[e] at h;cases h);have HN:=qh (λ W (B:aT W g s i)=>next_any g s i W B);obtain⟨t,ht⟩:∃ t,dL s.data.toList i=some t:=by
   cases ht:dL s.data.toList i with
   | none=>have h:=ng.o;rw[<- hL,qJ ht] at h;cases h
   | some t=>exact⟨t,rfl⟩
  obtain⟨ea,et,eh⟩:=jV ht;have al:L=t :: wordsOf s.data.toList (t.at_+t.tx.length):=by rw[<- hL,iF,ht]
  have K:t.tx = [45]:=by have h:=ng.o;rw[al] at h;simp[ni] at h;exact h.2
  have ar:=gq ht;rw[aY] at ar;have a:=acj ht (by rw[K];rfl);rw[<- al,aY] at a;obtain⟨P0,H⟩:=af (t.at_);obtain⟨i2,ay⟩:=af (aS s i+(aO s i).length);have bq:i2=P0+1:=by rw[<- ay,ea,et,K,H];rfl
  rw[ay] at HN ap;rw[H] at a;have wH:=qh ap;have ac:=qh hL;have bt:P0<s.size:=by rw[<- H];exact ar.2.1
  have bA:=B.s;have aw:=qh (show ah w g 346 #[cn s,ck cl (P0:Nat),cn ⟨#[45]⟩,cq t.touch] from by
   have h:=B.b;rw[ea,et,eh,H,K] at h;exact h)
  have bB:IntKind.i64.wrap (((P0:Nat):Int)+1)=((P0+1:Nat):Int):=by rw[show ((P0:Nat):Int)+1=((P0+1:Nat):Int) by omega];exact IntWalk.i64_in _ (by omega)
  have a2:=qh (λ L' (h:L'.length<L.length)=>hN L' h);have sQ:=qh (And.intro al (And.intro K H));clear ea et eh ar ay ap ht al K H hN hS;by_cases Y:P0+1<s.size
  .obtain⟨bd,ax⟩:=af (gp (s[P0+1]'Y));have zL:=qh (λ w'=>(show Calls Tryz.prog 284 #[.int .u8 ((s[P0+1]'Y).toNat:Nat)] w' λ e a9=>e = .returned (cq bd)/\w'=a9 from (jE (s[P0+1]'Y) w').mono λ e a9 ⟨he,hw⟩=>⟨he.trans (congrArg (λ x=>Ending.returned (cq x)) ax),hw⟩));rw[decide_eq_true Y,Bool.true_and,lS Y,ax] at a;have bj:((P0+1:Nat):Int)<((s.size:Nat):Int):=by omega
   have bl:((P0:Nat):Int)+1<((s.size:Nat):Int):=by omega
   clear ax B hm;cases bd
   .have n:=qh (n.o.trans (if_neg (by rw[a];decide)));clear a;obtain⟨r2,E⟩:=af (Pz s.data.toList.length .minus [] (wordsOf s.data.toList i2));have av:=qh (λ S (B:aT S g s i2) hm=>E▸a2.o (wordsOf s.data.toList i2) (by have:=wH.o.2;rw[hL] at this;omega) g i2 S B hm rfl);have V:=qh E;clear E;go_enter Tryz.func317,Tryz.ntmps317;go_upto_region 1 with (fail);obtain⟨W,z,l,I,M,D,-⟩:=fB g w;have G:=qh (show aT W g s i by rw[z];exact nV.o.alloc _);have vM:=qh (HM.o.kp l);have mJ:=qh I;have ab:=qh (show ah W g 346 #[cn s,ck cl (P0:Nat),cn ⟨#[45]⟩,cq t.touch] by rw[z];exact aw.o.alloc _);rw[<- z];clear z I;have c0:W.cell? ⟨g,0,none⟩=some (cn s):=G.o.b.cell 0;have F:W.cell? ⟨g,1,none⟩=some (ck cl (P0:Nat)):=ab.o.cell 1;go_wp2_with (first | (go_at_call 289;(with_reducible refine (HI.o _ G.o).mono ?_);rintro e r ⟨rfl,rfl⟩) | (go_at_call 284;(with_reducible refine (zL.o _).mono ?_);rintro e r ⟨rfl,rfl⟩) | (go_at_call 254;(with_reducible refine (HN.o _ G.o).mono ?_);rintro e w2 ⟨rfl,o,j⟩;have P:=qh o;have J:=qh j;have jA:=qh (l.trans j);have rU:=qh (mJ.o.kp j (by omega));clear o j));refine (av.o w2 P.o (HM.o.kp jA.o)).mono ?_;have Hg:W.heap.size<=w2.heap.size:=J.o.size;cases r2 with
    | err k2 =>
     rintro e w5 ⟨rfl,m⟩;have d:R = .err k2:=by rw[n.o,<- ac.o,<- wH.o.1];rw[V.o];rfl
     go_wp2_with fail;refine⟨rfl,?_⟩;rw[d];exact⟨rfl,jA.o.trans m⟩
    | ok es2 l2 =>
     rintro e w5 ⟨y,i4,bc,rfl,rfl,rfl,N,vZ,m⟩;have JW:=qh N;obtain⟨AZ,O,aE,LY,uY,uZ,ve⟩:=N;rename_i X F T U LZ;clear uY uZ ve AZ O aE LY;have nK:(ai y X F T U).toArray = (BC y X F T y.ar.length U):=rfl;rw[nK];clear nK;have d:R = .ok [kJ 20 [y]] (wordsOf s.data.toList i4):=by rw[n.o,<- ac.o,<- wH.o.1];rw[V.o];rfl
     have zl:=qh (rU.o.kp m (by omega));have O:=m.size;go_wp2_with fail;refine (iI 20 _ 1 1 _).mono ?_;rintro e w6 ⟨rfl,p⟩;have B6:=(zl.o.alloc (.cells (BC y X F T y.ar.length U) 67 (0,0))).below p (zl.o.alloc _).lt;obtain⟨dO,kD,eH,kE,ik,oV,iq,oW,jK,yQ,jL,yR,jM,yS,jO,yT⟩:=ah.z8 B6;go_wp2_with fail;refine bodyPost_ret (v:=.agg #[ck cl 4,ck cl 20,cn ⟨#[]⟩,ck cl 0,ck cl 0,cn ⟨#[]⟩,co none 0 0,co (some ⟨w5.heap.size,0,none⟩) 1 1]) (by simp[results,Tryz.results317,go_sem,dO,eH,ik,iq,jK,jL,jM,jO]) rfl ?_;rw[d];exact sZ (L:=W.heap.size) (RF 20 (JW.o.imp (λ k hk _=>by omega)) p (λ k hk=>by omega)) D am ((vZ.alloc _).below p) (((jA.o.trans m).alloc _).trans (Kp.of p))
   .have n:=qh (n.o.trans (if_pos a));have Rn:=qh a;clear a;obtain⟨u,tl,an,bn⟩:∃ u tl,wordsOf s.data.toList (t.at_+t.tx.length)=u :: tl/\True:=by
     cases h:wordsOf s.data.toList (t.at_+t.tx.length) with
     | nil=>have h1:=Rn.o;rw[sQ.o.1,h] at h1;cases h1
     | cons u tl=>exact⟨u,tl,rfl,trivial⟩
    have aD:t.at_+t.tx.length=i2:=by rw[bq,sQ.o.2.1,sQ.o.2.2];rfl
    have Q:=iH an;rw[aD] at Q an;obtain⟨aW,aq,-⟩:=jV Q.1;have a0:=qh (show wordsOf s.data.toList (t.at_+t.tx.length)=u :: wordsOf s.data.toList (aS s i2+(aO s i2).length) by rw[aD,an,aW,aq,<- Q.2]);have Be:=gq Q.1;rw[aY] at Be;have bh:=qh aq;have bb:u.tx.length<=4000:=by omega
    have aL:((⟨#[45]⟩:ByteArray) ++ tb u.tx)=tb (45 :: u.tx):=by
     refine ByteArray.ext ?_;rw[ByteArray.data_append];simp[tb]
    have bm:=qh aL;obtain⟨v,hv⟩:=af (tb u.tx);have a3:=qh hv;have bw:v.size<=4000:=by rw[<- hv,kY];exact bb
    clear bn aD Q aW aq an Be aL;go_enter Tryz.func317,Tryz.ntmps317;go_upto_region 1 with (fail);obtain⟨W,z,l,I,M,D,-⟩:=fB g w;have G:=qh (show aT W g s i by rw[z];exact nV.o.alloc _);have vM:=qh (HM.o.kp l);have mJ:=qh I;have ab:=qh (show ah W g 346 #[cn s,ck cl (P0:Nat),cn ⟨#[45]⟩,cq t.touch] by rw[z];exact aw.o.alloc _);rw[<- z];clear z I;have c0:W.cell? ⟨g,0,none⟩=some (cn s):=G.o.b.cell 0;have F:W.cell? ⟨g,1,none⟩=some (ck cl (P0:Nat)):=ab.o.cell 1;go_wp2_with (first | (go_at_call 289;(with_reducible refine (HI.o _ G.o).mono ?_);rintro e r ⟨rfl,rfl⟩) | (go_at_call 284;(with_reducible refine (zL.o _).mono ?_);rintro e r ⟨rfl,rfl⟩) | (go_at_call 254;(with_reducible refine (HN.o _ G.o).mono ?_);rintro e w2 ⟨rfl,o,j⟩;have P:=qh o;have J:=qh j;have jA:=qh (l.trans j);have rU:=qh (mJ.o.kp j (by omega));have d2:w2.cell? ⟨g,2,none⟩=some (cn v):=by { have h:=o.b.cell 2;rw[bh.o,a3.o] at h;exact h };clear o j));have ao:((⟨#[45]⟩:ByteArray) ++ v)=tb (45 :: u.tx):=by rw[<- a3.o];exact bm.o
    have a8:=qh (HM.o.kp jA.o).tab;rw[show (⟨#[45]⟩:ByteArray) ++ v=tb (45 :: u.tx) from ao];refine (G6 (tb (45 :: u.tx)) w2 (by rw[kY];simp;omega) a8.o.1 a8.o.2).mono ?_;rw[jJ];clear ao;rintro e r ⟨a1,Z⟩;obtain⟨x,A,c,f,rfl,a7,hA,bi,bf,q1,q2⟩:=a1.ex;have Pv:x.l.length<=maxLen:=by unfold maxLen;omega
    have Px:x.s.size<=maxLen:=by unfold maxLen;omega
    have Bi:=qh (And.intro a7 hA);have HQ:=qh (And.intro q1 q2);have br:=Z.size;have Jb:=qh (P.o.below Z);have Py:=qh (rU.o.below Z rU.o.lt);have Aj:=qh (jA.o.trans (Kp.of Z));have Hg:W.heap.size<=w2.heap.size:=J.o.size;clear a1 a7 hA q1 q2 bi bf Z;by_cases hf:f=0
    .have HV:=qh (HQ.o.1 hf);have a6:=Dt HV.o.1 HV.o.2;have UK:=qh a6;subst hf;clear a6;go_upto_region 7 with (fail);obtain⟨W3,C⟩:=aC (r.alloc (.cells (BO x A c) 65 (0,0)));have JX:=qh (show aT W3 g s i2 by rw[C];exact Jb.o.alloc _);have zM:=qh (show ZB W3 w.heap.size by rw[C];exact Py.o.alloc _);have ba:=qh (show ah W3 r.heap.size 65 (BO x A c) by rw[C];exact ah.new r _ _);have qU:=qh (show Kp g w W3 by rw[C];exact Aj.o.alloc _);have PD:W3.heap.size=r.heap.size+1:=by rw[C];simp
     have a5:=qh (show Reads W3 W3.heap.size 1 A x.l.length (bI cl x.l) by
      have h1:IY r W3:=by rw[C];exact (Below.refl _ _).alloc (cr _) _
      exact (Bi.o.1.below h1).more h1.size)
     rw[<- C];clear C;have bs:g<r.heap.size:=Jb.o.b.lt;go_wp2_with (go_at_call 254;(with_reducible refine (next_any g s i2 _ JX.o).mono ?_);rintro e w4 ⟨rfl,sD,ae⟩;have wI:=qh sD;have nS:=qh ae;have TV:=ba.o.kp ae (by omega);have aM:=zM.o.kp ae (by omega);have uf:w4.cell? ⟨r.heap.size,0,none⟩=some (ck cl x.k):=TV.cell 0;have ug:w4.cell? ⟨r.heap.size,1,none⟩=some (ck cl x.n):=TV.cell 1;have Cc:w4.cell? ⟨r.heap.size,2,none⟩=some (cn x.s):=TV.cell 2;have TP:w4.cell? ⟨r.heap.size,3,none⟩=some (co A x.l.length c):=TV.cell 3;clear sD ae);refine (uU x.k x.n x.s A x.l.length c w4).mono ?_;rintro e w5 ⟨rfl,aa⟩;have B5:=aM.below aa aM.lt;have bD:=qh (tu (q:=λ b=>r.heap.size<=b+r.heap.size/\b≠g) (c:=c) a5.o (λ ad e=>⟨by omega,by have:=Bi.o.2 ad e;omega⟩) Pv Px);have JW:=qh (tu (q:=λ b=>W.heap.size<=b) (c:=c) a5.o (λ ad e=>by have:=Bi.o.2 ad e;omega) Pv Px);have bp:=qh (((JW.o.Zm nS.o (λ k hk=>by omega)).keep (dN.of aa)).up aa.size);obtain⟨dO,kD,eH,kE,ik,oV,iq,oW,jK,yQ,jL,yR,jM,yS,jO,yT⟩:=ah.z8 B5;go_wp2_with fail;refine bodyPost_ret (v:=.agg #[ck cl 1,ck cl 0,cn ⟨#[]⟩,ck cl x.k,ck cl x.n,cn x.s,co A x.l.length c,co none 0 0]) (by simp[results,Tryz.results317,go_sem,dO,eH,ik,iq,jK,jL,jM,jO]) rfl ?_;have d:R = .ok [lD x] (wordsOf s.data.toList (aS s i2+(aO s i2).length)):=by rw[n.o,sQ.o.1];rw[a0.o];dsimp only;rw[UK.o]
     rw[d];exact sZ (L:=W.heap.size) (x:=lD x) (A':=none) (c':=0) bp.o D am (wI.o.below aa) ((qU.o.trans nS.o).trans (Kp.of aa))
    .have bv:(f == 0)=false:=by simp[hf]
     have yt:=qh (zH (HQ.o.2 hf).2.2);have bE:=qh (HQ.o.2 hf).1;clear hf;have d:R = .err P0:=by rw[n.o,sQ.o.1];rw[a0.o];dsimp only;rw[yt.o,sQ.o.2.2]
     go_wp2_with fail;refine⟨rfl,?_⟩;rw[d];exact⟨rfl,Aj.o.alloc _⟩
  .have a:Le L=false:=by rw[a,decide_eq_false Y];rfl
   have n:=qh (n.o.trans (if_neg (by rw[a];decide)));have bj:¬ ((P0+1:Nat):Int)<((s.size:Nat):Int):=by omega
   have bl:¬ ((P0:Nat):Int)+1<((s.size:Nat):Int):=by omega
   clear a B hm;obtain⟨r2,E⟩:=af (Pz s.data.toList.length .minus [] (wordsOf s.data.toList i2));have av:=qh (λ S (B:aT S g s i2) hm=>E▸a2.o (wordsOf s.data.toList i2) (by have:=wH.o.2;rw[hL] at this;omega) g i2 S B hm rfl);have V:=qh E;clear E;go_enter Tryz.func317,Tryz.ntmps317;go_upto_region 1 with (fail);obtain⟨W,z,l,I,M,D,-⟩:=fB g w;have G:=qh (show aT W g s i by rw[z];exact nV.o.alloc _);have vM:=qh (HM.o.kp l);have mJ:=qh I;have ab:=qh (show ah W g 346 #[cn s,ck cl (P0:Nat),cn ⟨#[45]⟩,cq t.touch] by rw[z];exact aw.o.alloc _);rw[<- z];clear z I;have c0:W.cell? ⟨g,0,none⟩=some (cn s):=G.o.b.cell 0;have F:W.cell? ⟨g,1,none⟩=some (ck cl (P0:Nat)):=ab.o.cell 1;go_wp2_with (first | (go_at_call 289;(with_reducible refine (HI.o _ G.o).mono ?_);rintro e r ⟨rfl,rfl⟩) | (go_at_call 254;(with_reducible refine (HN.o _ G.o).mono ?_);rintro e w2 ⟨rfl,o,j⟩;have P:=qh o;have J:=qh j;have jA:=qh (l.trans j);have rU:=qh (mJ.o.kp j (by omega));clear o j));refine (av.o w2 P.o (HM.o.kp jA.o)).mono ?_;have Hg:W.heap.size<=w2.heap.size:=J.o.size;cases r2 with
   | err k2 =>
    rintro e w5 ⟨rfl,m⟩;have d:R = .err k2:=by rw[n.o,<- ac.o,<- wH.o.1];rw[V.o];rfl
    go_wp2_with fail;refine⟨rfl,?_⟩;rw[d];exact⟨rfl,jA.o.trans m⟩
   | ok es2 l2 =>
    rintro e w5 ⟨y,i4,bc,rfl,rfl,rfl,N,vZ,m⟩;have JW:=qh N;obtain⟨AZ,O,aE,LY,uY,uZ,ve⟩:=N;rename_i X F T U LZ;clear uY uZ ve AZ O aE LY;have nK:(ai y X F T U).toArray = (BC y X F T y.ar.length U):=rfl;rw[nK];clear nK;have d:R = .ok [kJ 20 [y]] (wordsOf s.data.toList i4):=by rw[n.o,<- ac.o,<- wH.o.1];rw[V.o];rfl
    have zl:=qh (rU.o.kp m (by omega));have O:=m.size;go_wp2_with fail;refine (iI 20 _ 1 1 _).mono ?_;rintro e w6 ⟨rfl,p⟩;have B6:=(zl.o.alloc (.cells (BC y X F T y.ar.length U) 67 (0,0))).below p (zl.o.alloc _).lt;obtain⟨dO,kD,eH,kE,ik,oV,iq,oW,jK,yQ,jL,yR,jM,yS,jO,yT⟩:=ah.z8 B6;go_wp2_with fail;refine bodyPost_ret (v:=.agg #[ck cl 4,ck cl 20,cn ⟨#[]⟩,ck cl 0,ck cl 0,cn ⟨#[]⟩,co none 0 0,co (some ⟨w5.heap.size,0,none⟩) 1 1]) (by simp[results,Tryz.results317,go_sem,dO,eH,ik,iq,jK,jL,jM,jO]) rfl ?_;rw[d];exact sZ (L:=W.heap.size) (RF 20 (JW.o.imp (λ k hk _=>by omega)) p (λ k hk=>by omega)) D am ((vZ.alloc _).below p) (((jA.o.trans m).alloc _).trans (Kp.of p))
def Zt (w:World) (g:Nat) (s:ByteArray) (r:yD) (e:Ending) (w':World):Prop:=match r with
 | .ok es l'=>∃ x i cs,es = [x]/\l'=wordsOf s.data.toList i/\e = .returned (.tuple #[.agg cs.toArray,cq true])/\dD w' (λ b=>w.heap.size<=b) w'.heap.size x cs/\aT w' g s i/\Kp g w w'
 | .err k=>e=JU k/\Kp g w w'
noncomputable def tC (n:Nat) (x:List UInt8) (r:List Tok):yD:=
 if gX x≠0 then (match nameAt r with
  | none=>.err (qB n r)
  | some nm=>dR n [58] r.tail λ l1=>(Pz n .or [] l1).bind λ es l2=>dR n [41] l2 λ l3=>.ok [iO 5 (gX x) nm es] l3) else
 if lG x≠0 then (Pz n (.args (lG x)) [] r).bind λ es l1=>dR n [41] l1 λ l2=>.ok [kJ (lG x) es] l2 else
 (match nameAt r with
  | none=>.err (qB n r)
  | some nm=>dR n [41] r.tail λ l1=>.ok [iO 3 0 nm []] l1)
theorem Zu {w a:World} {g i:Nat} {s:ByteArray} {x:Ex} {A A':Option Addr} {c c':Nat} {L:Nat} (h:dD a (λ b=>L<b) a.heap.size x (ai x A c A' c')) (l:w.heap.size<L) (j:g<w.heap.size) (f:aT a g s i) (e:Kp g w a) :
  Zt w g s (.ok [x] (wordsOf s.data.toList i)) (.returned (.tuple #[.agg (BC x A c A' x.ar.length c'),cq true])) (kZ a w.heap.size (ck cl x.k) (ck cl x.op) (cn x.nm) (ck cl x.v.k) (ck cl x.v.n) (cn x.v.s) (co A x.v.l.length c) (co A' x.ar.length c')):=by
 have d:dN (λ b=>L<b) a (kZ a w.heap.size (ck cl x.k) (ck cl x.op) (cn x.nm) (ck cl x.v.k) (ck cl x.v.n) (cn x.v.s) (co A x.v.l.length c) (co A' x.ar.length c')):=
  ⟨by rw[jU];exact cr _,λ k e m=>by rw[fJ _ _ _ _ _ _ _ _ _ _ k (by omega)]⟩
 exact⟨x,i,ai x A c A' c',rfl,rfl,rfl,((h.keep d).up d.1).imp (λ k e _=>by omega),f.kp (fJ _ _ _ _ _ _ _ _ _ _ g (by omega)),uV e (cr _) _ _ _ _ _ _ _ _⟩
theorem tH {w:World} {p:Nat->Prop} {B:Nat} {a:List Ex} {css:List (List Value)} {A:Option Addr} {c:Nat} (k o:Int) (nm:List UInt8) (f:nm.length<=maxLen) (h:jh w p a css) (m:∀ k,B<=k->p k) (g:w.ownsRow B 67 8 (co A a.length c) a.length css.flatten) (n:a.length<=maxLen) :
  dD w p w.heap.size (iO k o nm a) (ai (iO k o nm a) none 0 A c):=by
 have q:∀ ad,A=some ad->p ad.block:=λ ad e=>by
  subst e;rcases g.2 with ⟨t,-⟩ | ⟨u,s,r,d,l,-⟩
  .cases t
  .injection d with d _ _;injection d with d;subst d;exact m _ l
 refine dD.mk (e:=iO k o nm a) (A:=none) (c:=0) (A':=A) (c':=c) (cs:=css.flatten) (show (⟨nm.toArray⟩:ByteArray).size<=maxLen by simpa [ByteArray.size] using f) (show 0<=maxLen from ct _) (show 0<=maxLen from ct _) n ⟨Reads.none_,λ _ ad e=>by cases e⟩ ⟨Reads.ig g,λ _=>q⟩ (λ i j=>?_);have b:i<css.length:=by rw[<- h.len];exact j
 rw[TS css h.cells i b];exact h.ex i j b
theorem PE {s:ByteArray} {i:Nat} {x:List UInt8} (h:nameAt (wordsOf s.data.toList i)=some x) (b:s.size<=4000):x.length<=4000:=by
 rw[iF] at h;cases ht:dL s.data.toList i with
 | none=>rw[ht] at h;cases h
 | some t =>
  rw[ht] at h;have a:(if !t.touch && nameB t.tx then some t.tx else none)=some x:=h;split at a
  .injection a with a;subst a;have:=gq ht;rw[aY] at this;omega
  .cases a
theorem Hl {g:Nat} {w w':World} (h:Kp g w w') {b:Nat} (d:w.heap.size<=b) (i:Nat) (v:Value):Kp g w (w'.setCell ⟨b,i,none⟩ v):=
 ⟨h.os,h.tape,h.output,by simp[World.setCell];exact h.size,λ k a c=>(Below.heap_setCell w' ⟨b,i,none⟩ v k (λ e=>by simp at e;omega)).trans (h.block k a c)⟩
theorem row_zero:gX zt=0/\lG zt=0:=by decide
theorem VU (g:Nat) (s:ByteArray) (i:Nat) (w:World) (hp:aT w g s i) (hm:TM w g) (t u:Tok) (r:List Tok) (hL:wordsOf s.data.toList i=t :: u :: r) (hu:u.tx = [40]) (ho:gX t.tx≠0) (hP:∀ L',L'.length<=r.length->fH 255 .or s L') :
  Calls Tryz.prog 324 #[cp (some ⟨g,0,none⟩),cn (tb t.tx)] w λ e w'=>Zt w g s (tC s.data.toList.length t.tx r) e w':=by
 have nV:=qh hp;have HM:=qh hm;have bp:=hp.b.lt;have bD:=hp.s;have z:=iH hL;have p:=iH z.2.symm;obtain⟨i1,aa⟩:=af (t.at_+t.tx.length);obtain⟨ea,et,eh⟩:=jV z.1;have bm:=qh (show aS s i+(aO s i).length=i1 by rw[ea,et,aa]);rw[aa] at z p;have O:=GZ p.1 hu (by decide);have bw:=qh (show ni (wordsOf s.data.toList i1) [40]=true by rw[<- z.2];simp[ni,O,hu]);obtain⟨i2,ad⟩:=af (aS s i1+(aO s i1).length);have a0:=qh ad;have ax:=qh (show wordsOf s.data.toList i2=r by
  obtain⟨a2,aL,-⟩:=jV p.1;rw[<- ad,a2,aL];exact p.2.symm)
 obtain⟨x,hx⟩:=af (t.tx);obtain⟨R,hR⟩:=af (tC s.data.toList.length t.tx r);rw[hR];rw[hx] at hR ⊢;obtain⟨v,hv⟩:=af (tb x);have HV:=qh hv;have PG:=qh (λ w'=>hv▸uX x w');have PH:=qh (λ w'=>hv▸Bz x w');have E:=qh hR;have JA:=qh hP;rw[hv];rw[hx] at ho;clear hR aa ad ea et eh z p O hL hu hp hm hP;obtain⟨ov,D⟩:=af (gX x);obtain⟨op,av⟩:=af (lG x);have aq:=Zi x;rw[D] at ho aq;have Zv:(v.toList == (⟨#[114,111,119]⟩:ByteArray).toList)=false:=dE (λ e=>by
  have e2:x=zt:=by rw[<- jJ x,hv,e];rfl
  subst e2;exact ho (D▸row_zero.1))
 have bs:(v.toList == [114,111,119])=false:=by simpa using Zv
 clear Zv;have bo:(ov == 0)=false:=by simp[ho]
 have b1:(0:Int)<ov:=by omega
 have E:=qh (show R=(match nameAt r with
  | none=>.err (qB s.data.toList.length r)
  | some nm=>dR s.data.toList.length [58] r.tail λ l1=>(Pz s.data.toList.length .or [] l1).bind λ es l2=>dR s.data.toList.length [41] l2 λ l3=>.ok [iO 5 ov nm es] l3) by rw[<- E.o];unfold tC;rw[D,if_pos ho])
 have Zw:=qh D;have Zx:=qh av;clear ho aq hv hx D av;go_enter Tryz.func324,Tryz.ntmps324;go_upto_region 1 with (fail);obtain⟨W,hW,aE,BR,bQ,bS,-⟩:=fB g w;have iY:=qh (show aT W g s i by rw[hW];exact nV.o.alloc _);have vM:=qh (HM.o.kp aE);have mJ:=qh BR;rw[<- hW];clear hW BR;go_wp2_with fail;refine (PG.o W).mono ?_;rintro e wa ⟨rfl,ak⟩;rw[Zw.o];go_wp2_with fail;refine (PH.o wa).mono ?_;rintro e wb ⟨rfl,an⟩;rw[Zx.o];have G:IY W wb:=ak.trans (an.mono ak.size);have a7:=qh (iY.o.below G);have a4:=qh (aE.trans (Kp.of G));have Zy:=qh (mJ.o.below G mJ.o.lt);have b2:=G.size;clear ak an G;have Ew:=qh (next_any g s i wb a7.o);rw[bm.o] at Ew;go_wp2_with (go_at_call 254;(with_reducible refine Ew.o.mono ?_);rintro e w2 ⟨rfl,aD,J⟩;have bq:=qh aD;have bX:=qh J);have Hm:=take_any g s i1 w2 bq.o [40] (by decide);rw[a0.o,show tb [40]=⟨#[40]⟩ from rfl] at Hm;refine Hm.mono ?_;intro e f d;rw[bw.o,if_pos rfl] at d;obtain⟨rfl,aw,Q⟩:=d;have JX:=qh aw;have Aj:=qh ((a4.o.trans J).trans Q);have zM:=qh ((Zy.o.kp J (by omega)).kp Q (by omega));have bO:W.heap.size<=f.heap.size:=by have h1:=J.size;have h2:=Q.size;omega
 clear Hm aD J aw Q;go_upto_region 8 with (fail);obtain⟨W3,m⟩:=aC (f.alloc (.cells #[ck cl 3,ck cl 0,cn ⟨#[]⟩,ck cl 0,ck cl 0,cn ⟨#[]⟩,co none 0 0,co none 0 0] 67 (0,0)));have Ho:=qh (show aT W3 g s i2 by rw[m];exact JX.o.alloc _);have qU:=qh (show Kp g w W3 by rw[m];exact Aj.o.alloc _);have Hq:=qh (show ZB W3 w.heap.size by rw[m];exact zM.o.alloc _);have Zz:=qh (show ah W3 f.heap.size 67 #[ck cl 3,ck cl 0,cn ⟨#[]⟩,ck cl 0,ck cl 0,cn ⟨#[]⟩,co none 0 0,co none 0 0] by rw[m];exact ah.new f _ _);have PD:W3.heap.size=f.heap.size+1:=by rw[m];simp
 rw[<- m];clear m;go_wp2_with fail;refine (Po g s i2 W3 Ho.o).mono ?_;intro e w4 hl;unfold acB at hl;rw[ax.o] at hl;obtain⟨N,hN⟩:=af (nameAt r);rw[hN] at hl;have HN:=qh hN;cases N with
 | none =>
  obtain⟨rfl,rfl⟩:=hl;have a:R = .err (qB s.data.toList.length r):=by rw[E.o,HN.o]
  go_wp2_with fail;refine⟨rfl,?_⟩;rw[a];exact⟨rfl,qU.o⟩
 | some nm =>
  obtain⟨i3,rfl,ZA,sD,C⟩:=hl;have aW:=PE (s:=s) (i:=i2) (by rw[ax.o];exact hN) bD;have MV:=qh (show nm.length<=maxLen by unfold maxLen;omega);obtain⟨v4,K⟩:=af (tb nm);have bv:=qh K;have ae:=qh ZA;have nS:=qh (qU.o.trans C);have B4:=Zz.o.kp C (by have:=JX.o.b.lt;omega);have bE:=qh B4;have wI:=qh sD;have tq:=qh (Hq.o.kp C (by omega));have ci:W3.heap.size<=w4.heap.size:=C.size;have ch:g<f.heap.size:=JX.o.b.lt;rw[K];clear hN K ZA sD C aW;obtain⟨kC,cb,kT,b0,nZ,b3,tV,cg,tX,b6,tY,ca,tZ,bR,wJ,al⟩:=ah.z8 B4;go_wp2_with fail;obtain⟨W4,uT⟩:=aC (kZ w4 f.heap.size (ck cl 5) (ck cl ov) (cn v4) (ck cl 0) (ck cl 0) (cn ⟨#[]⟩) (co none 0 0) (co none 0 0));have a8:=qh (show ah W4 f.heap.size 67 #[ck cl 5,ck cl ov,cn v4,ck cl 0,ck cl 0,cn ⟨#[]⟩,co none 0 0,co none 0 0] by rw[uT];exact Bo bE.o _ _ _ _ _ _ _ _);have bB:=qh (show aT W4 g s i3 by rw[uT];exact wI.o.kp (fJ _ _ _ _ _ _ _ _ _ _ g (by omega)));have Ja:=qh (show Kp g w W4 by rw[uT];exact uV nS.o (by omega) _ _ _ _ _ _ _ _);have bn:=qh (show ZB W4 w.heap.size by
   rw[uT]
   (try unfold ZB);unfold ah
   rw[fJ _ _ _ _ _ _ _ _ _ _ _ (by omega)];exact tq.o)
  have b9:W4.heap.size=w4.heap.size:=by rw[uT,jU]
  dsimp only[kZ] at uT;rw[<- uT];clear uT B4;have sQ:=take_any g s i3 W4 bB.o [58] (by decide);obtain⟨i4,ab⟩:=af (aS s i3+(aO s i3).length);have Dv:=λ h=>kQ (s:=s) (i:=i3) (word:=[58]) h;rw[show tb [58]=⟨#[58]⟩ from rfl,ab] at sQ;rw[ab] at Dv;refine sQ.mono ?_;intro e w5 d;obtain⟨b4,F⟩:=af (ni (wordsOf s.data.toList i3) [58]);rw[F] at d;cases b4
  .rw[if_neg (by decide)] at d;obtain⟨rfl,rfl⟩:=d;have a:R = .err (aS s i3):=by rw[E.o,HN.o];dsimp only;unfold dR;rw[<- ae.o,if_neg (by rw[F];decide),mV]
   go_wp2_with fail;refine⟨rfl,?_⟩;rw[a];exact⟨rfl,Ja.o⟩
  .rw[if_pos rfl] at d;obtain⟨rfl,vZ,H⟩:=d;have PI:=qh (Dv F);have ac:=qh (show R=(Pz s.data.toList.length .or [] (wordsOf s.data.toList i4)).bind λ es l2=>dR s.data.toList.length [41] l2 λ l3=>.ok [iO 5 ov nm es] l3 by
    rw[E.o,HN.o];dsimp only;rw[dR,<- ae.o,if_pos F,<- PI.o.1])
   have I7:=qh vZ;have Em:=qh (Ja.o.trans H);have zl:=qh (a8.o.kp H (by omega));have a9:=qh (bn.o.kp H (by omega));have bN:W4.heap.size<=w5.heap.size:=H.size;clear sQ Dv ab F vZ H;go_wp2_with fail;obtain⟨r2,bA⟩:=af (Pz s.data.toList.length .or [] (wordsOf s.data.toList i4));have ap:=JA.o (wordsOf s.data.toList i4) (by
    have h1:=PI.o.2;have h2:=ae.o;rw[h2,List.length_tail] at h1;omega) g i4 w5 I7.o (HM.o.kp Em.o) rfl
   rw[bA] at ap ac;refine ap.mono ?_;cases r2 with
   | err k =>
    rintro e j ⟨rfl,n⟩;have a:R = .err k:=ac.o;go_wp2_with fail;refine⟨rfl,?_⟩;rw[a];exact⟨rfl,Em.o.trans n⟩
   | ok es l2 =>
    rintro e j ⟨y,Z,cc,rfl,rfl,rfl,ar,ao,n⟩;have bK:=qh ar;obtain⟨ba,bb,bc,be,bL,bf,a5⟩:=ar;rename_i X S U V b7;clear bL bf a5 ba bb bc be;have am:(ai y X S U V).toArray = (BC y X S U y.ar.length V):=rfl;rw[am];clear am;have MX:=qh (zl.o.kp n (by omega));have bx:=qh (a9.o.kp n (by omega));have aR:=qh ao;have a6:=qh (Em.o.trans n);have cf:w5.heap.size<=j.heap.size:=n.size;have B6:=MX.o.alloc (.cells (BC y X S U y.ar.length V) 67 (0,0));have f7:(j.alloc (.cells (BC y X S U y.ar.length V) 67 (0,0))).cell? ⟨f.heap.size,7,none⟩=some (co none 0 0):=B6.cell 7;have al:(j.alloc (.cells (BC y X S U y.ar.length V) 67 (0,0))).frozen? ⟨f.heap.size,7,none⟩=false:=B6.frozen 7;have bt:j.cell? ⟨f.heap.size,7,none⟩=some (co none 0 0):=MX.o.cell 7;have bd:j.frozen? ⟨f.heap.size,7,none⟩=false:=MX.o.frozen 7;clear ao n;go_wp2_with fail;obtain⟨o,Y⟩:=aC (j.alloc (.cells (BC y X S U y.ar.length V) 67 (0,0)));rw[<- Y] at B6 ⊢;have ce:o.heap.size=j.heap.size+1:=by rw[Y];simp
    have a3:=qh (show aT o g s Z by rw[Y];exact aR.o.alloc _);have bl:=qh (show Kp g w o by rw[Y];exact a6.o.alloc _);have bj:=qh (show ZB o w.heap.size by rw[Y];exact bx.o.alloc _);have bg:=qh (show dD o (λ b=>f.heap.size<b) o.heap.size y (ai y X S U V) by
     rw[Y];exact ((bK.o.imp (q:=λ b=>f.heap.size<b) (λ k hk _=>by omega)).keep (dN.of ((Below.refl _ _).alloc (cr _) _))).up (by simp))
    have bh:=qh (show dD o (λ b=>f.heap.size<b) o.heap.size (iO 5 ov nm [y]) (ai (iO 5 ov nm [y]) none 0 (some ⟨j.heap.size,0,none⟩) 1) from
     tH (B:=j.heap.size) 5 ov nm MV.o (jh.one bg.o) (λ k hk=>by omega) (by
      have h1:o.ownsRow j.heap.size 67 8 (co (some ⟨j.heap.size,0,none⟩) 1 1) 1 (ai y X S U V):=by rw[Y];exact EN (ah.new j _ _) (cr _) rfl
      simpa using h1) (show 1<=maxLen by decide))
    clear f7 al bt bd Y;obtain⟨T,Hr⟩:=aC (o.setCell ⟨f.heap.size,7,none⟩ (co (some ⟨j.heap.size,0,none⟩) 1 1));have RI:∀ k,k≠f.heap.size->T.heap[k]?=o.heap[k]?:=λ k hk=>by rw[Hr];exact Below.heap_setCell o ⟨f.heap.size,7,none⟩ _ k hk
    have cj:T.heap.size=o.heap.size:=by rw[Hr];simp[World.setCell]
    have Vj:=qh (a3.o.kp (RI g (by omega)));have Qi:=qh (show Kp g w T by rw[Hr];exact Hl bl.o (by omega) _ _);have ZC:=qh (show ah T f.heap.size 67 #[ck cl 5,ck cl ov,cn v4,ck cl 0,ck cl 0,cn ⟨#[]⟩,co none 0 0,co (some ⟨j.heap.size,0,none⟩) 1 1] by
     rw[Hr];have h1:=B6.eG 7 (co (some ⟨j.heap.size,0,none⟩) 1 1);simpa using h1)
    have ZE:=qh (show ZB T w.heap.size by (try unfold ZB);unfold ah;rw[RI _ (by omega)];exact bj.o);have bi:=qh (show dD T (λ b=>f.heap.size<b) T.heap.size (iO 5 ov nm [y]) (ai (iO 5 ov nm [y]) none 0 (some ⟨j.heap.size,0,none⟩) 1) from
     (bh.o.keep ⟨by omega,λ k hk _=>RI k (by omega)⟩).up (by omega))
    have ay:=qh (show R=dR s.data.toList.length [41] (wordsOf s.data.toList Z) λ l=>.ok [iO 5 ov nm [y]] l from ac.o);rw[<- Hr];clear Hr;have vw:=take_any g s Z T Vj.o [41] (by decide);obtain⟨i6,Mc⟩:=af (aS s Z+(aO s Z).length);have P:=λ h=>kQ (s:=s) (i:=Z) (word:=[41]) h;rw[show tb [41]=⟨#[41]⟩ from rfl,Mc] at vw;rw[Mc] at P;refine vw.mono ?_;intro e w8 d;obtain⟨b5,M⟩:=af (ni (wordsOf s.data.toList Z) [41]);rw[M] at d;cases b5
    .rw[if_neg (by decide)] at d;obtain⟨rfl,rfl⟩:=d;have a:R = .err (aS s Z):=by rw[ay.o];unfold dR;rw[if_neg (by rw[M];decide),mV]
     have jB:=qh a;clear a vw P Mc;go_wp2_with fail;refine⟨rfl,?_⟩;rw[jB.o];exact⟨rfl,Qi.o⟩
    .rw[if_pos rfl] at d;obtain⟨rfl,ZF,I⟩:=d;have a:R = .ok [iO 5 ov nm [y]] (wordsOf s.data.toList i6):=by rw[ay.o];unfold dR;rw[if_pos M,<- (P M).1]
     have jB:=qh a;have br:=qh (bi.o.Zm I (λ k hk=>by omega));have bk:=qh ZF;have a1:=qh (Qi.o.trans I);have B8:=ZC.o.kp I (by omega);have aM:=ZE.o.kp I (by omega);clear a vw P Mc M ZF I;obtain⟨gG,fZ,fV,gI,gJ,gK,gQ,fM⟩:=ah.c8 B8;obtain⟨dO,kD,eH,kE,ik,oV,iq,oW,jK,yQ,jL,yR,jM,yS,jO,yT⟩:=ah.z8 aM;go_wp2_with fail;refine bodyPost_ret (v:=.tuple #[.agg #[ck cl 5,ck cl ov,cn v4,ck cl 0,ck cl 0,cn ⟨#[]⟩,co none 0 0,co (some ⟨j.heap.size,0,none⟩) 1 1],cq true]) (by simp[results,Tryz.results324,go_sem,dO,eH,ik,iq,jK,jL,jM,jO]) rfl ?_;rw[jB.o];have K:=bv.o;subst K;exact Zu (L:=f.heap.size) (x:=iO 5 ov nm [y]) (A:=none) (c:=0) (A':=some ⟨j.heap.size,0,none⟩) (c':=1) br.o (by omega) bp bk.o a1.o
theorem acG (g:Nat) (s:ByteArray) (i:Nat) (w:World) (hp:aT w g s i) (hm:TM w g) (t u:Tok) (r:List Tok) (hL:wordsOf s.data.toList i=t :: u :: r) (hu:u.tx = [40]) (ho:gX t.tx=0) (U:lG t.tx≠0) (hP:∀ L',L'.length<=r.length->fH 255 .or s L') :
  Calls Tryz.prog 324 #[cp (some ⟨g,0,none⟩),cn (tb t.tx)] w λ e w'=>Zt w g s (tC s.data.toList.length t.tx r) e w':=by
 have nV:=qh hp;have HM:=qh hm;have aL:=hp.b.lt;have bg:=hp.s;have o:=iH hL;have n:=iH o.2.symm;obtain⟨V,P⟩:=af (t.at_+t.tx.length);obtain⟨ea,et,eh⟩:=jV o.1;have aE:=qh (show aS s i+(aO s i).length=V by rw[ea,et,P]);rw[P] at o n;have G:=GZ n.1 hu (by decide);have aW:=qh (show ni (wordsOf s.data.toList V) [40]=true by rw[<- o.2];simp[ni,G,hu]);obtain⟨i2,Q⟩:=af (aS s V+(aO s V).length);have an:=qh Q;have ax:=qh (show wordsOf s.data.toList i2=r by
  obtain⟨ap,al,-⟩:=jV n.1;rw[<- Q,ap,al];exact n.2.symm)
 obtain⟨x,hx⟩:=af (t.tx);obtain⟨R,hR⟩:=af (tC s.data.toList.length t.tx r);rw[hR];rw[hx] at hR ⊢;obtain⟨v,T⟩:=af (tb x);have HV:=qh T;have PG:=qh (λ w'=>T▸uX x w');have PH:=qh (λ w'=>T▸Bz x w');have p:=qh hR;have JA:=qh hP;rw[T];rw[hx] at ho U;clear hR P Q ea et eh o n G hL hu hp hm hP;obtain⟨op,z⟩:=af (lG x);have X:=(afe x).1;rw[z] at U X;have Zv:(v.toList == (⟨#[114,111,119]⟩:ByteArray).toList)=false:=dE (λ e=>by
  have e2:x=zt:=by rw[<- jJ x,T,e];rfl
  subst e2;exact U (z▸row_zero.2))
 have bs:(v.toList == [114,111,119])=false:=by simpa using Zv
 clear Zv;have bo:(op == 0)=false:=by simp[U]
 have a8:(0:Int)<op:=by omega
 have p:=qh (show R=(Pz s.data.toList.length (.args op) [] r).bind λ F l1=>dR s.data.toList.length [41] l1 λ l2=>.ok [kJ op F] l2 by rw[<- p.o];unfold tC;rw[if_neg (λ h=>h ho),z,if_pos U]);have Zw:=qh ho;have Zx:=qh z;clear ho U X T hx z;go_enter Tryz.func324,Tryz.ntmps324;go_upto_region 1 with (fail);obtain⟨W,hW,ad,BR,a2,a5,-⟩:=fB g w;have iY:=qh (show aT W g s i by rw[hW];exact nV.o.alloc _);have vM:=qh (HM.o.kp ad);have mJ:=qh BR;rw[<- hW];clear hW BR;go_wp2_with fail;refine (PG.o W).mono ?_;rintro e wa ⟨rfl,S⟩;rw[Zw.o];go_wp2_with fail;refine (PH.o wa).mono ?_;rintro e wb ⟨rfl,Y⟩;rw[Zx.o];have C:IY W wb:=S.trans (Y.mono S.size);have ar:=qh (iY.o.below C);have aq:=qh (ad.trans (Kp.of C));have Zy:=qh (mJ.o.below C mJ.o.lt);have a9:=C.size;clear S Y C;have Ew:=qh (next_any g s i wb ar.o);rw[aE.o] at Ew;go_wp2_with (go_at_call 254;(with_reducible refine Ew.o.mono ?_);rintro e w2 ⟨rfl,ab,E⟩;have aM:=qh ab;have a6:=qh E);have Hm:=take_any g s V w2 aM.o [40] (by decide);rw[an.o,show tb [40]=⟨#[40]⟩ from rfl] at Hm;refine Hm.mono ?_;intro e y f;rw[aW.o,if_pos rfl] at f;obtain⟨rfl,Z,I⟩:=f;have JX:=qh Z;have Aj:=qh ((aq.o.trans E).trans I);have zM:=qh ((Zy.o.kp E (by omega)).kp I (by omega));have a1:W.heap.size<=y.heap.size:=by have h1:=E.size;have h2:=I.size;omega
 clear Hm ab E Z I;go_upto_region 8 with (fail);obtain⟨N,m⟩:=aC (y.alloc (.cells #[ck cl 3,ck cl 0,cn ⟨#[]⟩,ck cl 0,ck cl 0,cn ⟨#[]⟩,co none 0 0,co none 0 0] 67 (0,0)));have Ho:=qh (show aT N g s i2 by rw[m];exact JX.o.alloc _);have qU:=qh (show Kp g w N by rw[m];exact Aj.o.alloc _);have Hq:=qh (show ZB N w.heap.size by rw[m];exact zM.o.alloc _);have Zz:=qh (show ah N y.heap.size 67 #[ck cl 3,ck cl 0,cn ⟨#[]⟩,ck cl 0,ck cl 0,cn ⟨#[]⟩,co none 0 0,co none 0 0] by rw[m];exact ah.new y _ _);have PD:N.heap.size=y.heap.size+1:=by rw[m];simp
 rw[<- m];clear m;go_wp2_with fail;have HC:=I8 g s i2 N Ho.o (HM.o.kp qU.o) op r ax.o JA.o;obtain⟨r2,ac⟩:=af (Pz s.data.toList.length (.args op) [] r);rw[ac] at HC p;refine HC.mono ?_;have bh:g<y.heap.size:=JX.o.b.lt;clear HC ac;cases r2 with
 | err k =>
  rintro e w4 ⟨rfl,j⟩;have d:R = .err k:=p.o;go_wp2_with fail;refine⟨rfl,?_⟩;rw[d];exact⟨rfl,qU.o.trans j⟩
 | ok F l2 =>
  rintro e w4 ⟨O,css,A,c,rfl,rfl,ak,M,ba,sD,j⟩;have aa:=qh (show R=dR s.data.toList.length [41] (wordsOf s.data.toList O) λ l=>.ok [kJ op F] l from p.o);have Es:=qh ((Ha (B:=N.heap.size) op ak (λ k hk=>hk) M (by unfold maxLen;omega)).imp (q:=λ b=>y.heap.size<b) (λ k hk _=>by omega));have ae:=qh (Zz.o.kp j (by omega));have tq:=qh (Hq.o.kp j (by omega));have wI:=qh sD;have nS:=qh (qU.o.trans j);have bj:N.heap.size<=w4.heap.size:=j.size;clear ak M sD j;go_wp2_with fail;refine (iI op A F.length c w4).mono ?_;rintro e w5 ⟨rfl,a⟩;have a0:w4.heap.size<=w5.heap.size:=a.size;have B5:=ae.o.below a ae.o.lt;have zl:=qh B5;have aw:=qh (tq.o.below a tq.o.lt);have I7:=qh (wI.o.below a);have Em:=qh (nS.o.trans (Kp.of a));have av:=qh ((Es.o.keep (dN.of a)).up a.size);clear a;obtain⟨kC,be,kT,a7,nZ,bb,tV,bf,tX,bc,tY,bd,tZ,a4,wJ,a3⟩:=ah.z8 B5;go_wp2_with fail;obtain⟨K,J⟩:=aC (kZ w5 y.heap.size (ck cl 4) (ck cl op) (cn ⟨#[]⟩) (ck cl 0) (ck cl 0) (cn ⟨#[]⟩) (co none 0 0) (co A F.length c));have ZC:=qh (show ah K y.heap.size 67 #[ck cl 4,ck cl op,cn ⟨#[]⟩,ck cl 0,ck cl 0,cn ⟨#[]⟩,co none 0 0,co A F.length c] by rw[J];exact Bo zl.o _ _ _ _ _ _ _ _);have Vj:=qh (show aT K g s O by rw[J];exact I7.o.kp (fJ _ _ _ _ _ _ _ _ _ _ g (by omega)));have Qi:=qh (show Kp g w K by rw[J];exact uV Em.o (by omega) _ _ _ _ _ _ _ _);have ZE:=qh (show ZB K w.heap.size by
   rw[J]
   (try unfold ZB);unfold ah
   rw[fJ _ _ _ _ _ _ _ _ _ _ _ (by omega)];exact aw.o)
  have ay:=qh (show dD K (λ b=>y.heap.size<b) K.heap.size (kJ op F) (ai (kJ op F) none 0 A c) by rw[J];exact EO av.o (λ k hk=>by omega) _ _ _ _ _ _ _ _);have bi:K.heap.size=w5.heap.size:=by rw[J,jU]
  dsimp only[kZ] at J;rw[<- J];clear J B5;have vw:=take_any g s O K Vj.o [41] (by decide);obtain⟨i6,Mc⟩:=af (aS s O+(aO s O).length);have H:=λ h=>kQ (s:=s) (i:=O) (word:=[41]) h;rw[show tb [41]=⟨#[41]⟩ from rfl,Mc] at vw;rw[Mc] at H;refine vw.mono ?_;intro e w8 f;obtain⟨b5,a⟩:=af (ni (wordsOf s.data.toList O) [41]);rw[a] at f;cases b5
  .rw[if_neg (by decide)] at f;obtain⟨rfl,rfl⟩:=f;have d:R = .err (aS s O):=by rw[aa.o];unfold dR;rw[if_neg (by rw[a];decide),mV]
   have jB:=qh d;clear d vw H Mc;go_wp2_with fail;refine⟨rfl,?_⟩;rw[jB.o];exact⟨rfl,Qi.o⟩
  .rw[if_pos rfl] at f;obtain⟨rfl,ZF,D⟩:=f;have d:R = .ok [kJ op F] (wordsOf s.data.toList i6):=by rw[aa.o];unfold dR;rw[if_pos a,<- (H a).1]
   have jB:=qh d;have aR:=qh (ay.o.Zm D (λ k hk=>by omega));have aD:=qh ZF;have ao:=qh (Qi.o.trans D);have B8:=ZC.o.kp D (by omega);have am:=ZE.o.kp D (by omega);clear d vw H Mc a ZF D;obtain⟨gG,fZ,fV,gI,gJ,gK,gQ,fM⟩:=ah.c8 B8;obtain⟨dO,kD,eH,kE,ik,oV,iq,oW,jK,yQ,jL,yR,jM,yS,jO,yT⟩:=ah.z8 am;go_wp2_with fail;refine bodyPost_ret (v:=.tuple #[.agg #[ck cl 4,ck cl op,cn ⟨#[]⟩,ck cl 0,ck cl 0,cn ⟨#[]⟩,co none 0 0,co A F.length c],cq true]) (by simp[results,Tryz.results324,go_sem,dO,eH,ik,iq,jK,jL,jM,jO]) rfl ?_;rw[jB.o];exact Zu (L:=y.heap.size) (x:=kJ op F) (A:=none) (c:=0) (A':=A) (c':=c) aR.o (by omega) aL aD.o ao.o
theorem ZG (g:Nat) (s:ByteArray) (i:Nat) (w:World) (hp:aT w g s i) (hm:TM w g) (t u:Tok) (r:List Tok) (hL:wordsOf s.data.toList i=t :: u :: r) (hu:u.tx = [40]) (V:t.tx=zt) (hP:∀ L',L'.length<=r.length->fH 255 .or s L') :
  Calls Tryz.prog 324 #[cp (some ⟨g,0,none⟩),cn (tb t.tx)] w λ e w'=>Zt w g s (tC s.data.toList.length t.tx r) e w':=by
 have nV:=qh hp;have HM:=qh hm;have ax:=hp.b.lt;have aM:=hp.s;have o:=iH hL;have n:=iH o.2.symm;obtain⟨U,K⟩:=af (t.at_+t.tx.length);obtain⟨ea,et,eh⟩:=jV o.1;have aw:=qh (show aS s i+(aO s i).length=U by rw[ea,et,K]);rw[K] at o n;have E:=GZ n.1 hu (by decide);have aL:=qh (show ni (wordsOf s.data.toList U) [40]=true by rw[<- o.2];simp[ni,E,hu]);obtain⟨i2,O⟩:=af (aS s U+(aO s U).length);have al:=qh O;have Z:=qh (show wordsOf s.data.toList i2=r by
  obtain⟨an,ad,-⟩:=jV n.1;rw[<- O,an,ad];exact n.2.symm)
 obtain⟨x,hx⟩:=af (t.tx);obtain⟨R,hR⟩:=af (tC s.data.toList.length t.tx r);rw[hR];rw[hx] at hR ⊢;obtain⟨v,T⟩:=af (tb x);have HV:=qh T;have PG:=qh (λ w'=>T▸uX x w');have PH:=qh (λ w'=>T▸Bz x w');have H:=qh hR;have JA:=qh hP;rw[T];rw[hx] at V;clear hR K O ea et eh o n E hL hu hp hm hP;subst V;have Zv:(v.toList == (⟨#[114,111,119]⟩:ByteArray).toList)=true:=jb (by rw[<- T];rfl);have bs:(v.toList == [114,111,119])=true:=by simpa using Zv
 clear Zv;have H:=qh (show R=(match nameAt r with
  | none=>.err (qB s.data.toList.length r)
  | some nm=>dR s.data.toList.length [41] r.tail λ l1=>.ok [iO 3 0 nm []] l1) by rw[<- H.o];unfold tC;rw[if_neg (λ h=>h row_zero.1),if_neg (λ h=>h row_zero.2)];try (cases nameAt r <;> rfl))
 have Zw:=qh row_zero.1;have Zx:=qh row_zero.2;clear T;go_enter Tryz.func324,Tryz.ntmps324;go_upto_region 1 with (fail);obtain⟨W,hW,ac,BR,a0,a3,-⟩:=fB g w;have iY:=qh (show aT W g s i by rw[hW];exact nV.o.alloc _);have vM:=qh (HM.o.kp ac);have mJ:=qh BR;rw[<- hW];clear hW BR;go_wp2_with fail;refine (PG.o W).mono ?_;rintro e wa ⟨rfl,Q⟩;rw[Zw.o];go_wp2_with fail;refine (PH.o wa).mono ?_;rintro e wb ⟨rfl,X⟩;rw[Zx.o];have q:IY W wb:=Q.trans (X.mono Q.size);have ap:=qh (iY.o.below q);have ao:=qh (ac.trans (Kp.of q));have Zy:=qh (mJ.o.below q mJ.o.lt);have a6:=q.size;clear Q X q;have Ew:=qh (next_any g s i wb ap.o);rw[aw.o] at Ew;go_wp2_with (go_at_call 254;(with_reducible refine Ew.o.mono ?_);rintro e w2 ⟨rfl,ab,z⟩;have ay:=qh ab;have a4:=qh z);have Hm:=take_any g s U w2 ay.o [40] (by decide);rw[al.o,show tb [40]=⟨#[40]⟩ from rfl] at Hm;refine Hm.mono ?_;intro e m d;rw[aL.o,if_pos rfl] at d;obtain⟨rfl,Y,G⟩:=d;have JX:=qh Y;have Aj:=qh ((ao.o.trans z).trans G);have zM:=qh ((Zy.o.kp z (by omega)).kp G (by omega));have aW:W.heap.size<=m.heap.size:=by have h1:=z.size;have h2:=G.size;omega
 clear Hm ab z Y G;go_upto_region 8 with (fail);obtain⟨P,f⟩:=aC (m.alloc (.cells #[ck cl 3,ck cl 0,cn ⟨#[]⟩,ck cl 0,ck cl 0,cn ⟨#[]⟩,co none 0 0,co none 0 0] 67 (0,0)));have Ho:=qh (show aT P g s i2 by rw[f];exact JX.o.alloc _);have qU:=qh (show Kp g w P by rw[f];exact Aj.o.alloc _);have Hq:=qh (show ZB P w.heap.size by rw[f];exact zM.o.alloc _);have Zz:=qh (show ah P m.heap.size 67 #[ck cl 3,ck cl 0,cn ⟨#[]⟩,ck cl 0,ck cl 0,cn ⟨#[]⟩,co none 0 0,co none 0 0] by rw[f];exact ah.new m _ _);have PD:P.heap.size=m.heap.size+1:=by rw[f];simp
 rw[<- f];clear f;go_wp2_with fail;refine (Po g s i2 P Ho.o).mono ?_;intro e I hl;unfold acB at hl;rw[Z.o] at hl;obtain⟨N,hN⟩:=af (nameAt r);rw[hN] at hl;have HN:=qh hN;have bc:g<m.heap.size:=JX.o.b.lt;cases N with
 | none =>
  obtain⟨rfl,rfl⟩:=hl;have a:R = .err (qB s.data.toList.length r):=by rw[H.o,HN.o]
  go_wp2_with fail;refine⟨rfl,?_⟩;rw[a];exact⟨rfl,qU.o⟩
 | some nm =>
  obtain⟨J,rfl,ZA,sD,p⟩:=hl;have ak:=PE (s:=s) (i:=i2) (by rw[Z.o];exact hN) aM;have MV:=qh (show nm.length<=maxLen by unfold maxLen;omega);obtain⟨v4,C⟩:=af (tb nm);have aE:=qh C;have aa:=qh (show R=dR s.data.toList.length [41] (wordsOf s.data.toList J) λ l=>.ok [iO 3 0 nm []] l by rw[H.o,HN.o,ZA]);have nS:=qh (qU.o.trans p);have B4:=Zz.o.kp p (by omega);have aR:=qh B4;have wI:=qh sD;have tq:=qh (Hq.o.kp p (by omega));have bd:P.heap.size<=I.heap.size:=p.size;have aq:=qh (show dD I (λ b=>m.heap.size<b) I.heap.size (iO 3 0 nm []) (ai (iO 3 0 nm []) none 0 none 0) from
   tH (B:=I.heap.size) (css:=[]) 3 0 nm MV.o ⟨rfl,λ j h=>absurd h (by simp)⟩ (λ k hk=>by omega) ⟨rfl,.inl ⟨rfl,rfl⟩⟩ (ct _))
  rw[C];clear hN C ZA sD p ak;obtain⟨kC,ba,kT,a5,nZ,a7,tV,bb,tX,a8,tY,a9,tZ,a2,wJ,a1⟩:=ah.z8 B4;go_wp2_with fail;obtain⟨M,S⟩:=aC (I.setCell ⟨m.heap.size,2,none⟩ (cn v4));have RI:∀ k,k≠m.heap.size->M.heap[k]?=I.heap[k]?:=λ k hk=>by rw[S];exact Below.heap_setCell I ⟨m.heap.size,2,none⟩ _ k hk
  have be:M.heap.size=I.heap.size:=by rw[S];simp[World.setCell]
  have Vj:=qh (wI.o.kp (RI g (by omega)));have Qi:=qh (show Kp g w M by rw[S];exact Hl nS.o (by omega) _ _);have ZC:=qh (show ah M m.heap.size 67 #[ck cl 3,ck cl 0,cn v4,ck cl 0,ck cl 0,cn ⟨#[]⟩,co none 0 0,co none 0 0] by
   rw[S];have h1:=aR.o.eG 2 (cn v4);simpa using h1)
  have ZE:=qh (show ZB M w.heap.size by (try unfold ZB);unfold ah;rw[RI _ (by omega)];exact tq.o);have ar:=qh ((aq.o.keep ⟨by omega,λ k hk _=>RI k (by omega)⟩).up (show I.heap.size<=M.heap.size by omega));rw[<- S];clear S B4;have vw:=take_any g s J M Vj.o [41] (by decide);obtain⟨i6,Mc⟩:=af (aS s J+(aO s J).length);have F:=λ h=>kQ (s:=s) (i:=J) (word:=[41]) h;rw[show tb [41]=⟨#[41]⟩ from rfl,Mc] at vw;rw[Mc] at F;refine vw.mono ?_;intro e w8 d;obtain⟨b5,D⟩:=af (ni (wordsOf s.data.toList J) [41]);rw[D] at d;cases b5
  .rw[if_neg (by decide)] at d;obtain⟨rfl,rfl⟩:=d;have a:R = .err (aS s J):=by rw[aa.o];unfold dR;rw[if_neg (by rw[D];decide),mV]
   have jB:=qh a;clear a vw F Mc;go_wp2_with fail;refine⟨rfl,?_⟩;rw[jB.o];exact⟨rfl,Qi.o⟩
  .rw[if_pos rfl] at d;obtain⟨rfl,ZF,y⟩:=d;have a:R = .ok [iO 3 0 nm []] (wordsOf s.data.toList i6):=by rw[aa.o];unfold dR;rw[if_pos D,<- (F D).1]
   have jB:=qh a;have aD:=qh (ar.o.Zm y (λ k hk=>by omega));have av:=qh ZF;have am:=qh (Qi.o.trans y);have B8:=ZC.o.kp y (by omega);have ae:=ZE.o.kp y (by omega);clear a vw F Mc D ZF y;obtain⟨gG,fZ,fV,gI,gJ,gK,gQ,fM⟩:=ah.c8 B8;obtain⟨dO,kD,eH,kE,ik,oV,iq,oW,jK,yQ,jL,yR,jM,yS,jO,yT⟩:=ah.z8 ae;go_wp2_with fail;refine bodyPost_ret (v:=.tuple #[.agg #[ck cl 3,ck cl 0,cn v4,ck cl 0,ck cl 0,cn ⟨#[]⟩,co none 0 0,co none 0 0],cq true]) (by simp[results,Tryz.results324,go_sem,dO,eH,ik,iq,jK,jL,jM,jO]) rfl ?_;rw[jB.o];have C:=aE.o;subst C;exact Zu (L:=m.heap.size) (x:=iO 3 0 nm []) (A:=none) (c:=0) (A':=none) (c':=0) aD.o (by omega) ax av.o am.o
theorem VV (g:Nat) (w:World) (x:List UInt8) (m:gX x=0) (i:lG x=0) (q:x≠zt) :
  IE 324 #[cp (some ⟨g,0,none⟩),cn (tb x)] w (.tuple #[.agg #[ck cl 0,ck cl 0,cn ⟨#[]⟩,ck cl 0,ck cl 0,cn ⟨#[]⟩,co none 0 0,co none 0 0],cq false]):=by
 obtain⟨v,d⟩:=af (tb x);have j:=qh (λ w'=>d▸uX x w');have l:=qh (λ w'=>d▸Bz x w');rw[m] at j;rw[i] at l;have k:(v.toList == (⟨#[114,111,119]⟩:ByteArray).toList)=false:=dE (λ e=>by
  have u:x=zt:=by rw[<- jJ x,d,e];rfl
  exact q u)
 have L:(v.toList == [114,111,119])=false:=by simpa using k
 clear k;rw[d];clear d m i q;go_enter Tryz.func324,Tryz.ntmps324;go_upto_region 1 with (fail);obtain⟨W,o,-,n,-,-,h⟩:=Y8 0 w;rw[<- o];clear o;go_wp2_with fail;refine (j.o W).mono ?_;rintro e A ⟨rfl,a⟩;go_wp2_with fail;refine (l.o A).mono ?_;rintro e wb ⟨rfl,c⟩;have b:IY W wb:=a.trans (c.mono a.size);have f:=h.trans (b.mono h.size);have z:=n.o.below b n.o.lt;clear a c b;obtain⟨y,F,B,G,r,I,E,J,s,K,D,M,C,N,t,H⟩:=ah.z8 z;go_wp2_with fail;refine bodyPost_ret (v:=.tuple #[.agg #[ck cl 0,ck cl 0,cn ⟨#[]⟩,ck cl 0,ck cl 0,cn ⟨#[]⟩,co none 0 0,co none 0 0],cq false]) (by simp[results,Tryz.results324,go_sem,y,B,r,E,s,D,C,t]) rfl ⟨rfl,?_⟩;exact ((((((((f.setCell (p:=⟨w.heap.size,0,none⟩) (cr _) _).setCell (p:=⟨w.heap.size,1,none⟩) (cr _) _).setCell (p:=⟨w.heap.size,2,none⟩) (cr _) _).setCell (p:=⟨w.heap.size,3,none⟩) (cr _) _).setCell (p:=⟨w.heap.size,4,none⟩) (cr _) _).setCell (p:=⟨w.heap.size,5,none⟩) (cr _) _).setCell (p:=⟨w.heap.size,6,none⟩) (cr _) _).setCell (p:=⟨w.heap.size,7,none⟩) (cr _) _)
end Go.Proofs.YtcnagconagpkcaaGreatDoor
namespace Go.Proofs.YtcnagconagpkcaaGreatDoor
open Go.RowKit Vtx
theorem Ht (p:UInt8->Bool):∀ l:List UInt8,l.dropWhile p=l.drop (bZ p l)
 | []=>rfl
 | c :: r=>by
  rw[List.dropWhile_cons,bZ];cases h:p c
  .simp
  .simp[Ht p r]
theorem ZH {T s a:List UInt8} {n:Nat} (h:n<s.length) (c:s.getD n 0≠32) (b:T=a ++ BQ a.getLast? (s.drop n)):T=(a ++ [s.getD n 0]) ++ BQ (a ++ [s.getD n 0]).getLast? (s.drop (n+1)):=by
 rw[b,drop_cons h,TL _ _ c];simp
theorem RJ {T s a:List UInt8} {n J:Nat} (h:n<s.length) (g:s.getD n 0=32) (e:J=n+bZ bM (s.drop n)) (f:T=a ++ BQ a.getLast? (s.drop n)) :
  T=a ++ if lL a.getLast? (s.drop J) then 32 :: BQ (some 32) (s.drop J) else BQ a.getLast? (s.drop J):=by
 have b:s.drop n=32 :: s.drop (n+1):=by rw[drop_cons h,g]
 have d:(s.drop (n+1)).dropWhile bM=s.drop J:=by
  have c:(s.drop n).dropWhile bM=(s.drop (n+1)).dropWhile bM:=by rw[b,List.dropWhile_cons];rfl
  rw[<- c,Ht,List.drop_drop,e]
 rw[f,b,OZ,d]
theorem VW {s a:List UInt8} {J:Nat} (h:¬ J<s.length):lL a.getLast? (s.drop J)=false:=by
 rw[List.drop_eq_nil_of_le (by omega)];unfold lL;cases a.getLast? <;> rfl
theorem VX {s b:List UInt8} {a:UInt8} {J:Nat} (h:J<s.length):lL (b ++ [a]).getLast? (s.drop J)=((gp a || decide (a=35)) && gp (s.getD J 0)):=by
 rw[drop_cons h,List.getLast?_append];rfl
theorem JY {T s a:List UInt8} {J:Nat} (b:lL a.getLast? (s.drop J)=true) (h:T=a ++ if lL a.getLast? (s.drop J) then 32 :: BQ (some 32) (s.drop J) else BQ a.getLast? (s.drop J)):T=(a ++ [32]) ++ BQ (a ++ [32]).getLast? (s.drop J):=by
 rw[h,if_pos b];simp
theorem xM {T s a:List UInt8} {J:Nat} (b:lL a.getLast? (s.drop J)=false) (h:T=a ++ if lL a.getLast? (s.drop J) then 32 :: BQ (some 32) (s.drop J) else BQ a.getLast? (s.drop J)):T=a ++ BQ a.getLast? (s.drop J):=by
 rw[h,if_neg (by rw[b];decide)]
end Go.Proofs.YtcnagconagpkcaaGreatDoor
