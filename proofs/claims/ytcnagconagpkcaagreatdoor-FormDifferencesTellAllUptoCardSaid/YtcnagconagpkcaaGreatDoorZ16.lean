/- Lemmas. -/
import Derived.Test.YtcnagconagpkcaaGreatDoorZ15
set_option maxHeartbeats 8000000
set_option maxRecDepth 100000
open Go.Value renaming int->ck, string->cn, slice->co, pointer->cp, bool->cq
open Go.IntKind renaming i64->cl
open Nat renaming le_refl->cr, zero_le->ct
namespace Go.Proofs.YtcnagconagpkcaaGreatDoor
open Go.RowKit Vtx
attribute [local go_sem ↓] Go.wp_at_zero Go.wp_at_succ
theorem sS {w:World} {q:Nat->Prop} {x:Val} {A:Option Addr} {c:Nat} (d:Reads w w.heap.size 1 A x.l.length (bF cl x.l)) (g:∀ ad,A=some ad->q ad.block) (f:x.l.length<=maxLen) (a:x.s.size<=maxLen):cO w q w.heap.size (kX x) (az (kX x) A c none 0):=
 cO.mk (e:=kX x) (cs:=[]) (show 0<=maxLen from ct _) a f (show 0<=maxLen from ct _) ⟨d,λ _=>g⟩ ⟨Reads.none_,λ _ ad e=>by cases e⟩ (λ i b=>absurd b (by simp[kX,Ex.ar]))
theorem QQ (s:ByteArray) (L:List Tok) (hN:∀ L',L'.length<L.length->fE 317 .minus s L') (hS:fE 319 .bK s L):fE 317 .minus s L:=by
 intro g i w C hm hL;have lL:=qh C;have HM:=qh hm;have am:=C.b.lt;have n:=qh (iJ s.data.toList.length .minus [] L);obtain⟨R,hR⟩:=af (Pz s.data.toList.length .minus [] L);rw[hR] at n ⊢;dsimp only[iI] at n;obtain⟨b,hb⟩:=af (mW L [45]);have HI:=qh (λ (M:World) (C:aP M g s i)=>wP g s i M C [45] (by decide));rw[hL,hb,show tb [45]=⟨#[45]⟩ from rfl] at HI;have dH:=qh hb;clear hR hb;cases b
 .have n:=qh (n.o.trans (if_neg (by rw[dH.o];decide)));have HC:=qh (λ M (C:aP M g s i) hm=>hS g i M C hm hL);rw[<- n.o] at HC;clear C hm hN hS;go_enter Tryz.func317,Tryz.ntmps317;go_upto_region 1 with (fail);obtain⟨W,z,l,Q,O,E,-⟩:=fA g w;have H:=qh (show aP W g s i by rw[z];exact lL.o.alloc _);have xU:=qh (HM.o.kp l);have mi:=qh Q;rw[<- z];clear z Q;go_wp2_with (go_at_call 289;(with_reducible refine (HI.o _ H.o).mono ?_);rintro e w2 ⟨rfl,rfl⟩);refine (HC.o W H.o xU.o).mono ?_;cases R with
  | err k =>
   rintro e w1 ⟨rfl,ac⟩;go_wp2_with fail;exact⟨rfl,rfl,l.trans ac⟩
  | ok es l1 =>
   rintro e w1 ⟨y,i1,bq,rfl,rfl,rfl,aD,bj,ac⟩;have D8:=qh aD;obtain⟨bl,a8,B,bi,wR,wS,a2⟩:=aD;rename_i A1 G K P Ou;clear wR wS a2 bl a8 B bi;have oK:(az y A1 G K P).toArray = (BC y A1 G K y.ar.length P):=rfl;rw[oK];clear oK;have B1:=mi.o.kp ac (by omega);obtain⟨dM,jY,eQ,jZ,gW,oH,gX,oI,jM,yw,jO,yx,jP,yz,jQ,yA⟩:=ag.z8 B1;go_wp2_with fail;refine bodyPost_ret (v:=.agg (BC y A1 G K y.ar.length P)) (by simp[results,Tryz.results317,go_sem,dM,eQ,gW,gX,jM,jO,jP,jQ]) rfl ?_;exact sO D8.o E am bj (l.trans ac)
 .have n:=qh (n.o.trans (if_pos dH.o));have av:=qP (s:=s) (i:=i) (by rw[hL];intro e;have h:=dH.o;rw[e] at h;cases h);have HN:=qh (λ W (C:aP W g s i)=>next_any g s i W C);obtain⟨t,ht⟩:∃ t,dG s.data.toList i=some t:=by
   cases ht:dG s.data.toList i with
   | none=>have h:=dH.o;rw[<- hL,qp ht] at h;cases h
   | some t=>exact⟨t,rfl⟩
  obtain⟨ea,et,eh⟩:=jU ht;have ab:L=t :: wordsOf s.data.toList (t.at_+t.tx.length):=by rw[<- hL,gZ,ht]
  have Z:t.tx = [45]:=by have h:=dH.o;rw[ab] at h;simp[mW] at h;exact h.2
  have aw:=fP ht;rw[aT] at aw;have a:=abQ ht (by rw[Z];rfl);rw[<- ab,aT] at a;obtain⟨P0,I⟩:=af (t.at_);obtain⟨i2,ap⟩:=af (aN s i+(aK s i).length);have be:i2=P0+1:=by rw[<- ap,ea,et,Z,I];rfl
  rw[ap] at HN av;rw[I] at a;have vN:=qh av;have al:=qh hL;have br:P0<s.size:=by rw[<- I];exact aw.2.1
  have bA:=C.s;have ax:=qh (show ag w g 346 #[cn s,ck cl (P0:Nat),cn ⟨#[45]⟩,cq t.touch] from by
   have h:=C.b;rw[ea,et,eh,I,Z] at h;exact h)
  have bx:IntKind.i64.wrap (((P0:Nat):Int)+1)=((P0+1:Nat):Int):=by rw[show ((P0:Nat):Int)+1=((P0+1:Nat):Int) by omega];exact IntWalk.i64_in _ (by omega)
  have aL:=qh (λ L' (h:L'.length<L.length)=>hN L' h);have sG:=qh (And.intro ab (And.intro Z I));clear ea et eh aw ap av ht ab Z I hN hS;by_cases B:P0+1<s.size
  .obtain⟨bd,aq⟩:=af (fO (s[P0+1]'B));have yV:=qh (λ w'=>(show Calls Tryz.prog 284 #[.int .u8 ((s[P0+1]'B).toNat:Nat)] w' λ e aX=>e = .returned (cq bd)/\w'=aX from (jv (s[P0+1]'B) w').mono λ e aX ⟨he,hw⟩=>⟨he.trans (congrArg (λ x=>Ending.returned (cq x)) aq),hw⟩));rw[decide_eq_true B,Bool.true_and,lN B,aq] at a;have bm:((P0+1:Nat):Int)<((s.size:Nat):Int):=by omega
   have a7:((P0:Nat):Int)+1<((s.size:Nat):Int):=by omega
   clear aq C hm;cases bd
   .have n:=qh (n.o.trans (if_neg (by rw[a];decide)));clear a;obtain⟨r2,F⟩:=af (Pz s.data.toList.length .minus [] (wordsOf s.data.toList i2));have ay:=qh (λ M (C:aP M g s i2) hm=>F▸aL.o (wordsOf s.data.toList i2) (by have:=vN.o.2;rw[hL] at this;omega) g i2 M C hm rfl);have U:=qh F;clear F;go_enter Tryz.func317,Tryz.ntmps317;go_upto_region 1 with (fail);obtain⟨W,z,l,Q,O,E,-⟩:=fA g w;have H:=qh (show aP W g s i by rw[z];exact lL.o.alloc _);have xU:=qh (HM.o.kp l);have mi:=qh Q;have V:=qh (show ag W g 346 #[cn s,ck cl (P0:Nat),cn ⟨#[45]⟩,cq t.touch] by rw[z];exact ax.o.alloc _);rw[<- z];clear z Q;have c0:W.cell? ⟨g,0,none⟩=some (cn s):=H.o.b.cell 0;have G:W.cell? ⟨g,1,none⟩=some (ck cl (P0:Nat)):=V.o.cell 1;go_wp2_with (first | (go_at_call 289;(with_reducible refine (HI.o _ H.o).mono ?_);rintro e r ⟨rfl,rfl⟩) | (go_at_call 284;(with_reducible refine (yV.o _).mono ?_);rintro e r ⟨rfl,rfl⟩) | (go_at_call 254;(with_reducible refine (HN.o _ H.o).mono ?_);rintro e w2 ⟨rfl,o,j⟩;have T:=qh o;have S:=qh j;have ng:=qh (l.trans j);have rD:=qh (mi.o.kp j (by omega));clear o j));refine (ay.o w2 T.o (HM.o.kp ng.o)).mono ?_;have Gj:W.heap.size<=w2.heap.size:=S.o.size;cases r2 with
    | err k2 =>
     rintro e w5 ⟨rfl,m⟩;have d:R = .err k2:=by rw[n.o,<- al.o,<- vN.o.1];rw[U.o];rfl
     go_wp2_with fail;refine⟨rfl,?_⟩;rw[d];exact⟨rfl,ng.o.trans m⟩
    | ok es2 l2 =>
     rintro e w5 ⟨y,i4,bg,rfl,rfl,rfl,Y,xX,m⟩;have Je:=qh Y;obtain⟨zM,N,aA,J8,uG,uH,uI⟩:=Y;rename_i A1 G K P J9;clear uG uH uI zM N aA J8;have nD:(az y A1 G K P).toArray = (BC y A1 G K y.ar.length P):=rfl;rw[nD];clear nD;have d:R = .ok [kE 20 [y]] (wordsOf s.data.toList i4):=by rw[n.o,<- al.o,<- vN.o.1];rw[U.o];rfl
     have DX:=qh (rD.o.kp m (by omega));have N:=m.size;go_wp2_with fail;refine (iy 20 _ 1 1 _).mono ?_;rintro e w6 ⟨rfl,p⟩;have B6:=(DX.o.alloc (.cells (BC y A1 G K y.ar.length P) 67 (0,0))).below p (DX.o.alloc _).lt;obtain⟨dM,jY,eQ,jZ,gW,oH,gX,oI,jM,yw,jO,yx,jP,yz,jQ,yA⟩:=ag.z8 B6;go_wp2_with fail;refine bodyPost_ret (v:=.agg #[ck cl 4,ck cl 20,cn ⟨#[]⟩,ck cl 0,ck cl 0,cn ⟨#[]⟩,co none 0 0,co (some ⟨w5.heap.size,0,none⟩) 1 1]) (by simp[results,Tryz.results317,go_sem,dM,eQ,gW,gX,jM,jO,jP,jQ]) rfl ?_;rw[d];exact sO (L:=W.heap.size) (QO 20 (Je.o.imp (λ k hk _=>by omega)) p (λ k hk=>by omega)) E am ((xX.alloc _).below p) (((ng.o.trans m).alloc _).trans (Kp.of p))
   .have n:=qh (n.o.trans (if_pos a));have QD:=qh a;clear a;obtain⟨u,tl,ae,bk⟩:∃ u tl,wordsOf s.data.toList (t.at_+t.tx.length)=u :: tl/\True:=by
     cases h:wordsOf s.data.toList (t.at_+t.tx.length) with
     | nil=>have h1:=QD.o;rw[sG.o.1,h] at h1;cases h1
     | cons u tl=>exact⟨u,tl,rfl,trivial⟩
    have ar:t.at_+t.tx.length=i2:=by rw[be,sG.o.2.1,sG.o.2.2];rfl
    have aa:=iw ae;rw[ar] at aa ae;obtain⟨a4,ao,-⟩:=jU aa.1;have a0:=qh (show wordsOf s.data.toList (t.at_+t.tx.length)=u :: wordsOf s.data.toList (aN s i2+(aK s i2).length) by rw[ar,ae,a4,ao,<- aa.2]);have zT:=fP aa.1;rw[aT] at zT;have bh:=qh ao;have bf:u.tx.length<=4000:=by omega
    have a6:((⟨#[45]⟩:ByteArray) ++ tb u.tx)=tb (45 :: u.tx):=by
     refine ByteArray.ext ?_;rw[ByteArray.data_append];simp[tb]
    have bb:=qh a6;obtain⟨v,hv⟩:=af (tb u.tx);have a5:=qh hv;have bv:v.size<=4000:=by rw[<- hv,kS];exact bf
    clear bk ar aa a4 ao ae zT a6;go_enter Tryz.func317,Tryz.ntmps317;go_upto_region 1 with (fail);obtain⟨W,z,l,Q,O,E,-⟩:=fA g w;have H:=qh (show aP W g s i by rw[z];exact lL.o.alloc _);have xU:=qh (HM.o.kp l);have mi:=qh Q;have V:=qh (show ag W g 346 #[cn s,ck cl (P0:Nat),cn ⟨#[45]⟩,cq t.touch] by rw[z];exact ax.o.alloc _);rw[<- z];clear z Q;have c0:W.cell? ⟨g,0,none⟩=some (cn s):=H.o.b.cell 0;have G:W.cell? ⟨g,1,none⟩=some (ck cl (P0:Nat)):=V.o.cell 1;go_wp2_with (first | (go_at_call 289;(with_reducible refine (HI.o _ H.o).mono ?_);rintro e r ⟨rfl,rfl⟩) | (go_at_call 284;(with_reducible refine (yV.o _).mono ?_);rintro e r ⟨rfl,rfl⟩) | (go_at_call 254;(with_reducible refine (HN.o _ H.o).mono ?_);rintro e w2 ⟨rfl,o,j⟩;have T:=qh o;have S:=qh j;have ng:=qh (l.trans j);have rD:=qh (mi.o.kp j (by omega));have d2:w2.cell? ⟨g,2,none⟩=some (cn v):=by { have h:=o.b.cell 2;rw[bh.o,a5.o] at h;exact h };clear o j));have an:((⟨#[45]⟩:ByteArray) ++ v)=tb (45 :: u.tx):=by rw[<- a5.o];exact bb.o
    have aE:=qh (HM.o.kp ng.o).tab;rw[show (⟨#[45]⟩:ByteArray) ++ v=tb (45 :: u.tx) from an];refine (FX (tb (45 :: u.tx)) w2 (by rw[kS];simp;omega) aE.o.1 aE.o.2).mono ?_;rw[jB];clear an;rintro e r ⟨aZ,X⟩;obtain⟨x,A,c,f,rfl,a3,hA,a9,bn,q1,q2⟩:=aZ.ex;have Oy:x.l.length<=maxLen:=by unfold maxLen;omega
    have Oz:x.s.size<=maxLen:=by unfold maxLen;omega
    have zX:=qh (And.intro a3 hA);have HQ:=qh (And.intro q1 q2);have bp:=X.size;have Ij:=qh (T.o.below X);have OA:=qh (rD.o.below X rD.o.lt);have IC:=qh (ng.o.trans (Kp.of X));have Gj:W.heap.size<=w2.heap.size:=S.o.size;clear aZ a3 hA q1 q2 a9 bn X;by_cases hf:f=0
    .have HV:=qh (HQ.o.1 hf);have a1:=CE HV.o.1 HV.o.2;have ba:=qh a1;subst hf;clear a1;go_upto_region 7 with (fail);obtain⟨W3,D⟩:=aH (r.alloc (.cells (BK x A c) 65 (0,0)));have Jf:=qh (show aP W3 g s i2 by rw[D];exact Ij.o.alloc _);have yX:=qh (show ZB W3 w.heap.size by rw[D];exact OA.o.alloc _);have bc:=qh (show ag W3 r.heap.size 65 (BK x A c) by rw[D];exact ag.new r _ _);have qH:=qh (show Kp g w W3 by rw[D];exact IC.o.alloc _);have OB:W3.heap.size=r.heap.size+1:=by rw[D];simp
     have aM:=qh (show Reads W3 W3.heap.size 1 A x.l.length (bF cl x.l) by
      have h1:EG r W3:=by rw[D];exact (Below.refl _ _).alloc (cr _) _
      exact (zX.o.1.below h1).more h1.size)
     rw[<- D];clear D;have bt:g<r.heap.size:=Ij.o.b.lt;go_wp2_with (go_at_call 254;(with_reducible refine (next_any g s i2 _ Jf.o).mono ?_);rintro e w4 ⟨rfl,wQ,ak⟩;have vO:=qh wQ;have oJ:=qh ak;have Tu:=bc.o.kp ak (by omega);have aR:=yX.o.kp ak (by omega);have xO:w4.cell? ⟨r.heap.size,0,none⟩=some (ck cl x.k):=Tu.cell 0;have xP:w4.cell? ⟨r.heap.size,1,none⟩=some (ck cl x.n):=Tu.cell 1;have G6:w4.cell? ⟨r.heap.size,2,none⟩=some (cn x.s):=Tu.cell 2;have Ti:w4.cell? ⟨r.heap.size,3,none⟩=some (co A x.l.length c):=Tu.cell 3;clear wQ ak);refine (uC x.k x.n x.s A x.l.length c w4).mono ?_;rintro e w5 ⟨rfl,J⟩;have B5:=aR.below J aR.lt;have bw:=qh (sS (q:=λ b=>r.heap.size<=b+r.heap.size/\b≠g) (c:=c) aM.o (λ ad e=>⟨by omega,by have:=zX.o.2 ad e;omega⟩) Oy Oz);have Je:=qh (sS (q:=λ b=>W.heap.size<=b) (c:=c) aM.o (λ ad e=>by have:=zX.o.2 ad e;omega) Oy Oz);have bo:=qh (((Je.o.YX oJ.o (λ k hk=>by omega)).keep (dI.of J)).up J.size);obtain⟨dM,jY,eQ,jZ,gW,oH,gX,oI,jM,yw,jO,yx,jP,yz,jQ,yA⟩:=ag.z8 B5;go_wp2_with fail;refine bodyPost_ret (v:=.agg #[ck cl 1,ck cl 0,cn ⟨#[]⟩,ck cl x.k,ck cl x.n,cn x.s,co A x.l.length c,co none 0 0]) (by simp[results,Tryz.results317,go_sem,dM,eQ,gW,gX,jM,jO,jP,jQ]) rfl ?_;have d:R = .ok [kX x] (wordsOf s.data.toList (aN s i2+(aK s i2).length)):=by rw[n.o,sG.o.1];rw[a0.o];dsimp only;rw[ba.o]
     rw[d];exact sO (L:=W.heap.size) (x:=kX x) (A':=none) (c':=0) bo.o E am (vO.o.below J) ((qH.o.trans oJ.o).trans (Kp.of J))
    .have bs:(f == 0)=false:=by simp[hf]
     have xH:=qh (yR (HQ.o.2 hf).2.2);have bB:=qh (HQ.o.2 hf).1;clear hf;have d:R = .err P0:=by rw[n.o,sG.o.1];rw[a0.o];dsimp only;rw[xH.o,sG.o.2.2]
     go_wp2_with fail;refine⟨rfl,?_⟩;rw[d];exact⟨rfl,IC.o.alloc _⟩
  .have a:JK L=false:=by rw[a,decide_eq_false B];rfl
   have n:=qh (n.o.trans (if_neg (by rw[a];decide)));have bm:¬ ((P0+1:Nat):Int)<((s.size:Nat):Int):=by omega
   have a7:¬ ((P0:Nat):Int)+1<((s.size:Nat):Int):=by omega
   clear a C hm;obtain⟨r2,F⟩:=af (Pz s.data.toList.length .minus [] (wordsOf s.data.toList i2));have ay:=qh (λ M (C:aP M g s i2) hm=>F▸aL.o (wordsOf s.data.toList i2) (by have:=vN.o.2;rw[hL] at this;omega) g i2 M C hm rfl);have U:=qh F;clear F;go_enter Tryz.func317,Tryz.ntmps317;go_upto_region 1 with (fail);obtain⟨W,z,l,Q,O,E,-⟩:=fA g w;have H:=qh (show aP W g s i by rw[z];exact lL.o.alloc _);have xU:=qh (HM.o.kp l);have mi:=qh Q;have V:=qh (show ag W g 346 #[cn s,ck cl (P0:Nat),cn ⟨#[45]⟩,cq t.touch] by rw[z];exact ax.o.alloc _);rw[<- z];clear z Q;have c0:W.cell? ⟨g,0,none⟩=some (cn s):=H.o.b.cell 0;have G:W.cell? ⟨g,1,none⟩=some (ck cl (P0:Nat)):=V.o.cell 1;go_wp2_with (first | (go_at_call 289;(with_reducible refine (HI.o _ H.o).mono ?_);rintro e r ⟨rfl,rfl⟩) | (go_at_call 254;(with_reducible refine (HN.o _ H.o).mono ?_);rintro e w2 ⟨rfl,o,j⟩;have T:=qh o;have S:=qh j;have ng:=qh (l.trans j);have rD:=qh (mi.o.kp j (by omega));clear o j));refine (ay.o w2 T.o (HM.o.kp ng.o)).mono ?_;have Gj:W.heap.size<=w2.heap.size:=S.o.size;cases r2 with
   | err k2 =>
    rintro e w5 ⟨rfl,m⟩;have d:R = .err k2:=by rw[n.o,<- al.o,<- vN.o.1];rw[U.o];rfl
    go_wp2_with fail;refine⟨rfl,?_⟩;rw[d];exact⟨rfl,ng.o.trans m⟩
   | ok es2 l2 =>
    rintro e w5 ⟨y,i4,bg,rfl,rfl,rfl,Y,xX,m⟩;have Je:=qh Y;obtain⟨zM,N,aA,J8,uG,uH,uI⟩:=Y;rename_i A1 G K P J9;clear uG uH uI zM N aA J8;have nD:(az y A1 G K P).toArray = (BC y A1 G K y.ar.length P):=rfl;rw[nD];clear nD;have d:R = .ok [kE 20 [y]] (wordsOf s.data.toList i4):=by rw[n.o,<- al.o,<- vN.o.1];rw[U.o];rfl
    have DX:=qh (rD.o.kp m (by omega));have N:=m.size;go_wp2_with fail;refine (iy 20 _ 1 1 _).mono ?_;rintro e w6 ⟨rfl,p⟩;have B6:=(DX.o.alloc (.cells (BC y A1 G K y.ar.length P) 67 (0,0))).below p (DX.o.alloc _).lt;obtain⟨dM,jY,eQ,jZ,gW,oH,gX,oI,jM,yw,jO,yx,jP,yz,jQ,yA⟩:=ag.z8 B6;go_wp2_with fail;refine bodyPost_ret (v:=.agg #[ck cl 4,ck cl 20,cn ⟨#[]⟩,ck cl 0,ck cl 0,cn ⟨#[]⟩,co none 0 0,co (some ⟨w5.heap.size,0,none⟩) 1 1]) (by simp[results,Tryz.results317,go_sem,dM,eQ,gW,gX,jM,jO,jP,jQ]) rfl ?_;rw[d];exact sO (L:=W.heap.size) (QO 20 (Je.o.imp (λ k hk _=>by omega)) p (λ k hk=>by omega)) E am ((xX.alloc _).below p) (((ng.o.trans m).alloc _).trans (Kp.of p))
def Y4 (w:World) (g:Nat) (s:ByteArray) (r:xQ) (e:Ending) (w':World):Prop:=match r with
 | .ok es l'=>∃ x i cs,es = [x]/\l'=wordsOf s.data.toList i/\e = .returned (.tuple #[.agg cs.toArray,cq true])/\cO w' (λ b=>w.heap.size<=b) w'.heap.size x cs/\aP w' g s i/\Kp g w w'
 | .err k=>e=Jc k/\Kp g w w'
noncomputable def sU (n:Nat) (x:List UInt8) (r:List Tok):xQ:=
 if gy x≠0 then (match nameAt r with
  | none=>.err (qf n r)
  | some nm=>dL n [58] r.tail λ l1=>(Pz n .or [] l1).bind λ es l2=>dL n [41] l2 λ l3=>.ok [iH 5 (gy x) nm es] l3) else
 if kZ x≠0 then (Pz n (.args (kZ x)) [] r).bind λ es l1=>dL n [41] l1 λ l2=>.ok [kE (kZ x) es] l2 else
 (match nameAt r with
  | none=>.err (qf n r)
  | some nm=>dL n [41] r.tail λ l1=>.ok [iH 3 0 nm []] l1)
theorem Y5 {w a:World} {g i:Nat} {s:ByteArray} {x:Ex} {A A':Option Addr} {c c':Nat} {L:Nat} (h:cO a (λ b=>L<b) a.heap.size x (az x A c A' c')) (m:w.heap.size<L) (l:g<w.heap.size) (f:aP a g s i) (e:Kp g w a) :
  Y4 w g s (.ok [x] (wordsOf s.data.toList i)) (.returned (.tuple #[.agg (BC x A c A' x.ar.length c'),cq true])) (kT a w.heap.size (ck cl x.k) (ck cl x.op) (cn x.nm) (ck cl x.v.k) (ck cl x.v.n) (cn x.v.s) (co A x.v.l.length c) (co A' x.ar.length c')):=by
 have d:dI (λ b=>L<b) a (kT a w.heap.size (ck cl x.k) (ck cl x.op) (cn x.nm) (ck cl x.v.k) (ck cl x.v.n) (cn x.v.s) (co A x.v.l.length c) (co A' x.ar.length c')):=
  ⟨by rw[jK];exact cr _,λ k e j=>by rw[fF _ _ _ _ _ _ _ _ _ _ k (by omega)]⟩
 exact⟨x,i,az x A c A' c',rfl,rfl,rfl,((h.keep d).up d.1).imp (λ k e _=>by omega),f.kp (fF _ _ _ _ _ _ _ _ _ _ g (by omega)),uD e (cr _) _ _ _ _ _ _ _ _⟩
theorem sV {w:World} {p:Nat->Prop} {B:Nat} {a:List Ex} {css:List (List Value)} {A:Option Addr} {c:Nat} (k o:Int) (nm:List UInt8) (f:nm.length<=maxLen) (h:jc w p a css) (t:∀ k,B<=k->p k) (j:w.ownsRow B 67 8 (co A a.length c) a.length css.flatten) (s:a.length<=maxLen) :
  cO w p w.heap.size (iH k o nm a) (az (iH k o nm a) none 0 A c):=by
 have r:∀ ad,A=some ad->p ad.block:=λ ad e=>by
  subst e;rcases j.2 with ⟨l,-⟩ | ⟨u,q,n,d,m,-⟩
  .cases l
  .injection d with d _ _;injection d with d;subst d;exact t _ m
 refine cO.mk (e:=iH k o nm a) (A:=none) (c:=0) (A':=A) (c':=c) (cs:=css.flatten) (show (⟨nm.toArray⟩:ByteArray).size<=maxLen by simpa [ByteArray.size] using f) (show 0<=maxLen from ct _) (show 0<=maxLen from ct _) s ⟨Reads.none_,λ _ ad e=>by cases e⟩ ⟨Reads.fM j,λ _=>r⟩ (λ i g=>?_);have b:i<css.length:=by rw[<- h.len];exact g
 rw[Tn css h.cells i b];exact h.ex i g b
theorem OC {s:ByteArray} {i:Nat} {x:List UInt8} (h:nameAt (wordsOf s.data.toList i)=some x) (b:s.size<=4000):x.length<=4000:=by
 rw[gZ] at h;cases ht:dG s.data.toList i with
 | none=>rw[ht] at h;cases h
 | some t =>
  rw[ht] at h;have a:(if !t.touch && nameB t.tx then some t.tx else none)=some x:=h;split at a
  .injection a with a;subst a;have:=fP ht;rw[aT] at this;omega
  .cases a
theorem Gl {g:Nat} {w w':World} (h:Kp g w w') {b:Nat} (d:w.heap.size<=b) (i:Nat) (v:Value):Kp g w (w'.setCell ⟨b,i,none⟩ v):=
 ⟨h.os,h.tape,h.output,by simp[World.setCell];exact h.size,λ k a c=>(Below.heap_setCell w' ⟨b,i,none⟩ v k (λ e=>by simp at e;omega)).trans (h.block k a c)⟩
theorem row_zero:gy yJ=0/\kZ yJ=0:=by decide
theorem VA (g:Nat) (s:ByteArray) (i:Nat) (w:World) (hp:aP w g s i) (hm:TM w g) (t u:Tok) (r:List Tok) (hL:wordsOf s.data.toList i=t :: u :: r) (hu:u.tx = [40]) (ho:gy t.tx≠0) (hP:∀ L',L'.length<=r.length->fE 255 .or s L') :
  Calls Tryz.prog 324 #[cp (some ⟨g,0,none⟩),cn (tb t.tx)] w λ e w'=>Y4 w g s (sU s.data.toList.length t.tx r) e w':=by
 have lL:=qh hp;have HM:=qh hm;have bL:=hp.b.lt;have bv:=hp.s;have F:=iw hL;have p:=iw F.2.symm;obtain⟨i1,ab⟩:=af (t.at_+t.tx.length);obtain⟨ea,et,eh⟩:=jU F.1;have bb:=qh (show aN s i+(aK s i).length=i1 by rw[ea,et,ab]);rw[ab] at F p;have M:=FV p.1 hu (by decide);have ba:=qh (show mW (wordsOf s.data.toList i1) [40]=true by rw[<- F.2];simp[mW,M,hu]);obtain⟨i2,aa⟩:=af (aN s i1+(aK s i1).length);have a4:=qh aa;have ar:=qh (show wordsOf s.data.toList i2=r by
  obtain⟨bp,aR,-⟩:=jU p.1;rw[<- aa,bp,aR];exact p.2.symm)
 obtain⟨x,hx⟩:=af (t.tx);obtain⟨R,hR⟩:=af (sU s.data.toList.length t.tx r);rw[hR];rw[hx] at hR ⊢;obtain⟨v,hv⟩:=af (tb x);have HV:=qh hv;have OD:=qh (λ w'=>hv▸uF x w');have OE:=qh (λ w'=>hv▸Af x w');have O:=qh hR;have IM:=qh hP;rw[hv];rw[hx] at ho;clear hR ab aa ea et eh F p M hL hu hp hm hP;obtain⟨ov,H⟩:=af (gy x);obtain⟨op,aq⟩:=af (kZ x);have am:=YT x;rw[H] at ho am;have Y6:(v.toList == (⟨#[114,111,119]⟩:ByteArray).toList)=false:=dR (λ e=>by
  have e2:x=yJ:=by rw[<- jB x,hv,e];rfl
  subst e2;exact ho (H▸row_zero.1))
 have bs:(v.toList == [114,111,119])=false:=by simpa using Y6
 clear Y6;have bo:(ov == 0)=false:=by simp[ho]
 have b1:(0:Int)<ov:=by omega
 have O:=qh (show R=(match nameAt r with
  | none=>.err (qf s.data.toList.length r)
  | some nm=>dL s.data.toList.length [58] r.tail λ l1=>(Pz s.data.toList.length .or [] l1).bind λ es l2=>dL s.data.toList.length [41] l2 λ l3=>.ok [iH 5 ov nm es] l3) by rw[<- O.o];unfold sU;rw[H,if_pos ho])
 have Y7:=qh H;have Y8:=qh aq;clear ho am hv hx H aq;go_enter Tryz.func324,Tryz.ntmps324;go_upto_region 1 with (fail);obtain⟨W,hW,ay,BR,bR,bT,-⟩:=fA g w;have iV:=qh (show aP W g s i by rw[hW];exact lL.o.alloc _);have xU:=qh (HM.o.kp ay);have mi:=qh BR;rw[<- hW];clear hW BR;go_wp2_with fail;refine (OD.o W).mono ?_;rintro e wa ⟨rfl,ae⟩;rw[Y7.o];go_wp2_with fail;refine (OE.o wa).mono ?_;rintro e wb ⟨rfl,aA⟩;rw[Y8.o];have z:EG W wb:=ae.trans (aA.mono ae.size);have bd:=qh (iV.o.below z);have a2:=qh (ay.trans (Kp.of z));have Y9:=qh (mi.o.below z mi.o.lt);have b6:=z.size;clear ae aA z;have Dy:=qh (next_any g s i wb bd.o);rw[bb.o] at Dy;go_wp2_with (go_at_call 254;(with_reducible refine Dy.o.mono ?_);rintro e w2 ⟨rfl,av,D⟩;have bi:=qh av;have ce:=qh D);have Gm:=take_any g s i1 w2 bi.o [40] (by decide);rw[a4.o,show tb [40]=⟨#[40]⟩ from rfl] at Gm;refine Gm.mono ?_;intro e f d;rw[ba.o,if_pos rfl] at d;obtain⟨rfl,aw,P⟩:=d;have Jf:=qh aw;have IC:=qh ((a2.o.trans D).trans P);have yX:=qh ((Y9.o.kp D (by omega)).kp P (by omega));have bO:W.heap.size<=f.heap.size:=by have h1:=D.size;have h2:=P.size;omega
 clear Gm av D aw P;go_upto_region 8 with (fail);obtain⟨W3,n⟩:=aH (f.alloc (.cells #[ck cl 3,ck cl 0,cn ⟨#[]⟩,ck cl 0,ck cl 0,cn ⟨#[]⟩,co none 0 0,co none 0 0] 67 (0,0)));have Gn:=qh (show aP W3 g s i2 by rw[n];exact Jf.o.alloc _);have qH:=qh (show Kp g w W3 by rw[n];exact IC.o.alloc _);have Gp:=qh (show ZB W3 w.heap.size by rw[n];exact yX.o.alloc _);have Za:=qh (show ag W3 f.heap.size 67 #[ck cl 3,ck cl 0,cn ⟨#[]⟩,ck cl 0,ck cl 0,cn ⟨#[]⟩,co none 0 0,co none 0 0] by rw[n];exact ag.new f _ _);have OB:W3.heap.size=f.heap.size+1:=by rw[n];simp
 rw[<- n];clear n;go_wp2_with fail;refine (Ov g s i2 W3 Gn.o).mono ?_;intro e w4 hl;unfold ab6 at hl;rw[ar.o] at hl;obtain⟨N,hN⟩:=af (nameAt r);rw[hN] at hl;have HN:=qh hN;cases N with
 | none =>
  obtain⟨rfl,rfl⟩:=hl;have a:R = .err (qf s.data.toList.length r):=by rw[O.o,HN.o]
  go_wp2_with fail;refine⟨rfl,?_⟩;rw[a];exact⟨rfl,qH.o⟩
 | some nm =>
  obtain⟨i3,rfl,Zb,wQ,J⟩:=hl;have bj:=OC (s:=s) (i:=i2) (by rw[ar.o];exact hN) bv;have WE:=qh (show nm.length<=maxLen by unfold maxLen;omega);obtain⟨v4,I⟩:=af (tb nm);have bh:=qh I;have ad:=qh Zb;have oJ:=qh (qH.o.trans J);have B4:=Za.o.kp J (by have:=Jf.o.b.lt;omega);have bg:=qh B4;have vO:=qh wQ;have sQ:=qh (Gp.o.kp J (by omega));have cf:W3.heap.size<=w4.heap.size:=J.size;have cg:g<f.heap.size:=Jf.o.b.lt;rw[I];clear hN I Zb wQ J bj;obtain⟨qJ,ch,rU,ca,x9,b2,AP,cj,AQ,ci,AU,b0,AV,bX,AZ,ap⟩:=ag.z8 B4;go_wp2_with fail;obtain⟨W4,Y⟩:=aH (kT w4 f.heap.size (ck cl 5) (ck cl ov) (cn v4) (ck cl 0) (ck cl 0) (cn ⟨#[]⟩) (co none 0 0) (co none 0 0));have a5:=qh (show ag W4 f.heap.size 67 #[ck cl 5,ck cl ov,cn v4,ck cl 0,ck cl 0,cn ⟨#[]⟩,co none 0 0,co none 0 0] by rw[Y];exact Aa bg.o _ _ _ _ _ _ _ _);have bB:=qh (show aP W4 g s i3 by rw[Y];exact vO.o.kp (fF _ _ _ _ _ _ _ _ _ _ g (by omega)));have Ii:=qh (show Kp g w W4 by rw[Y];exact uD oJ.o (by omega) _ _ _ _ _ _ _ _);have bl:=qh (show ZB W4 w.heap.size by
   rw[Y]
   (try unfold ZB);unfold ag
   rw[fF _ _ _ _ _ _ _ _ _ _ _ (by omega)];exact sQ.o)
  have b9:W4.heap.size=w4.heap.size:=by rw[Y,jK]
  dsimp only[kT] at Y;rw[<- Y];clear Y B4;have sG:=take_any g s i3 W4 bB.o [58] (by decide);obtain⟨i4,al⟩:=af (aN s i3+(aK s i3).length);have CJ:=λ h=>kL (s:=s) (i:=i3) (word:=[58]) h;rw[show tb [58]=⟨#[58]⟩ from rfl,al] at sG;rw[al] at CJ;refine sG.mono ?_;intro e w5 d;obtain⟨b4,E⟩:=af (mW (wordsOf s.data.toList i3) [58]);rw[E] at d;cases b4
  .rw[if_neg (by decide)] at d;obtain⟨rfl,rfl⟩:=d;have a:R = .err (aN s i3):=by rw[O.o,HN.o];dsimp only;unfold dL;rw[<- ad.o,if_neg (by rw[E];decide),mJ]
   go_wp2_with fail;refine⟨rfl,?_⟩;rw[a];exact⟨rfl,Ii.o⟩
  .rw[if_pos rfl] at d;obtain⟨rfl,xX,G⟩:=d;have OG:=qh (CJ E);have ac:=qh (show R=(Pz s.data.toList.length .or [] (wordsOf s.data.toList i4)).bind λ es l2=>dL s.data.toList.length [41] l2 λ l3=>.ok [iH 5 ov nm es] l3 by
    rw[O.o,HN.o];dsimp only;rw[dL,<- ad.o,if_pos E,<- OG.o.1])
   have Ic:=qh xX;have Ib:=qh (Ii.o.trans G);have DX:=qh (a5.o.kp G (by omega));have br:=qh (bl.o.kp G (by omega));have bN:W4.heap.size<=w5.heap.size:=G.size;clear sG CJ al E xX G;go_wp2_with fail;obtain⟨r2,a7⟩:=af (Pz s.data.toList.length .or [] (wordsOf s.data.toList i4));have ax:=IM.o (wordsOf s.data.toList i4) (by
    have h1:=OG.o.2;have h2:=ad.o;rw[h2,List.length_tail] at h1;omega) g i4 w5 Ic.o (HM.o.kp Ib.o) rfl
   rw[a7] at ax ac;refine ax.mono ?_;cases r2 with
   | err k =>
    rintro e j ⟨rfl,m⟩;have a:R = .err k:=ac.o;go_wp2_with fail;refine⟨rfl,?_⟩;rw[a];exact⟨rfl,Ib.o.trans m⟩
   | ok es l2 =>
    rintro e j ⟨y,Z,b7,rfl,rfl,rfl,aE,an,m⟩;have bA:=qh aE;obtain⟨bc,bm,aX,bq,bK,aZ,a3⟩:=aE;rename_i A1 S U V bS;clear bK aZ a3 bc bm aX bq;have ao:(az y A1 S U V).toArray = (BC y A1 S U y.ar.length V):=rfl;rw[ao];clear ao;have ak:=qh (DX.o.kp m (by omega));have bw:=qh (br.o.kp m (by omega));have aM:=qh an;have bn:=qh (Ib.o.trans m);have b3:w5.heap.size<=j.heap.size:=m.size;have B6:=ak.o.alloc (.cells (BC y A1 S U y.ar.length V) 67 (0,0));have f7:(j.alloc (.cells (BC y A1 S U y.ar.length V) 67 (0,0))).cell? ⟨f.heap.size,7,none⟩=some (co none 0 0):=B6.cell 7;have ap:(j.alloc (.cells (BC y A1 S U y.ar.length V) 67 (0,0))).frozen? ⟨f.heap.size,7,none⟩=false:=B6.frozen 7;have be:j.cell? ⟨f.heap.size,7,none⟩=some (co none 0 0):=ak.o.cell 7;have a6:j.frozen? ⟨f.heap.size,7,none⟩=false:=ak.o.frozen 7;clear an m;go_wp2_with fail;obtain⟨o,X⟩:=aH (j.alloc (.cells (BC y A1 S U y.ar.length V) 67 (0,0)));rw[<- X] at B6 ⊢;have cb:o.heap.size=j.heap.size+1:=by rw[X];simp
    have bt:=qh (show aP o g s Z by rw[X];exact aM.o.alloc _);have a0:=qh (show Kp g w o by rw[X];exact bn.o.alloc _);have aL:=qh (show ZB o w.heap.size by rw[X];exact bw.o.alloc _);have a8:=qh (show cO o (λ b=>f.heap.size<b) o.heap.size y (az y A1 S U V) by
     rw[X];exact ((bA.o.imp (q:=λ b=>f.heap.size<b) (λ k hk _=>by omega)).keep (dI.of ((Below.refl _ _).alloc (cr _) _))).up (by simp))
    have a9:=qh (show cO o (λ b=>f.heap.size<b) o.heap.size (iH 5 ov nm [y]) (az (iH 5 ov nm [y]) none 0 (some ⟨j.heap.size,0,none⟩) 1) from
     sV (B:=j.heap.size) 5 ov nm WE.o (jc.one a8.o) (λ k hk=>by omega) (by
      have h1:o.ownsRow j.heap.size 67 8 (co (some ⟨j.heap.size,0,none⟩) 1 1) 1 (az y A1 S U V):=by rw[X];exact Ef (ag.new j _ _) (cr _) rfl
      simpa using h1) (show 1<=maxLen by decide))
    clear f7 ap be a6 X;obtain⟨T,Gq⟩:=aH (o.setCell ⟨f.heap.size,7,none⟩ (co (some ⟨j.heap.size,0,none⟩) 1 1));have QR:∀ k,k≠f.heap.size->T.heap[k]?=o.heap[k]?:=λ k hk=>by rw[Gq];exact Below.heap_setCell o ⟨f.heap.size,7,none⟩ _ k hk
    have cc:T.heap.size=o.heap.size:=by rw[Gq];simp[World.setCell]
    have UW:=qh (bt.o.kp (QR g (by omega)));have PI:=qh (show Kp g w T by rw[Gq];exact Gl a0.o (by omega) _ _);have Zc:=qh (show ag T f.heap.size 67 #[ck cl 5,ck cl ov,cn v4,ck cl 0,ck cl 0,cn ⟨#[]⟩,co none 0 0,co (some ⟨j.heap.size,0,none⟩) 1 1] by
     rw[Gq];have h1:=B6.dS 7 (co (some ⟨j.heap.size,0,none⟩) 1 1);simpa using h1)
    have Zd:=qh (show ZB T w.heap.size by (try unfold ZB);unfold ag;rw[QR _ (by omega)];exact aL.o);have a1:=qh (show cO T (λ b=>f.heap.size<b) T.heap.size (iH 5 ov nm [y]) (az (iH 5 ov nm [y]) none 0 (some ⟨j.heap.size,0,none⟩) 1) from
     (a9.o.keep ⟨by omega,λ k hk _=>QR k (by omega)⟩).up (by omega))
    have aD:=qh (show R=dL s.data.toList.length [41] (wordsOf s.data.toList Z) λ l=>.ok [iH 5 ov nm [y]] l from ac.o);rw[<- Gq];clear Gq;have uK:=take_any g s Z T UW.o [41] (by decide);obtain⟨i6,Kq⟩:=af (aN s Z+(aK s Z).length);have Q:=λ h=>kL (s:=s) (i:=Z) (word:=[41]) h;rw[show tb [41]=⟨#[41]⟩ from rfl,Kq] at uK;rw[Kq] at Q;refine uK.mono ?_;intro e w8 d;obtain⟨b5,C⟩:=af (mW (wordsOf s.data.toList Z) [41]);rw[C] at d;cases b5
    .rw[if_neg (by decide)] at d;obtain⟨rfl,rfl⟩:=d;have a:R = .err (aN s Z):=by rw[aD.o];unfold dL;rw[if_neg (by rw[C];decide),mJ]
     have jI:=qh a;clear a uK Q Kq;go_wp2_with fail;refine⟨rfl,?_⟩;rw[jI.o];exact⟨rfl,PI.o⟩
    .rw[if_pos rfl] at d;obtain⟨rfl,QS,K⟩:=d;have a:R = .ok [iH 5 ov nm [y]] (wordsOf s.data.toList i6):=by rw[aD.o];unfold dL;rw[if_pos C,<- (Q C).1]
     have jI:=qh a;have bk:=qh (a1.o.YX K (λ k hk=>by omega));have bE:=qh QS;have bx:=qh (PI.o.trans K);have B8:=Zc.o.kp K (by omega);have bf:=Zd.o.kp K (by omega);clear a uK Q Kq C QS K;obtain⟨iK,iL,iM,iQ,iR,iT,iU,iC⟩:=ag.c8 B8;obtain⟨dM,jY,eQ,jZ,gW,oH,gX,oI,jM,yw,jO,yx,jP,yz,jQ,yA⟩:=ag.z8 bf;go_wp2_with fail;refine bodyPost_ret (v:=.tuple #[.agg #[ck cl 5,ck cl ov,cn v4,ck cl 0,ck cl 0,cn ⟨#[]⟩,co none 0 0,co (some ⟨j.heap.size,0,none⟩) 1 1],cq true]) (by simp[results,Tryz.results324,go_sem,dM,eQ,gW,gX,jM,jO,jP,jQ]) rfl ?_;rw[jI.o];have I:=bh.o;subst I;exact Y5 (L:=f.heap.size) (x:=iH 5 ov nm [y]) (A:=none) (c:=0) (A':=some ⟨j.heap.size,0,none⟩) (c':=1) bk.o (by omega) bL bE.o bx.o
theorem ace (g:Nat) (s:ByteArray) (i:Nat) (w:World) (hp:aP w g s i) (hm:TM w g) (t u:Tok) (r:List Tok) (hL:wordsOf s.data.toList i=t :: u :: r) (hu:u.tx = [40]) (ho:gy t.tx=0) (T:kZ t.tx≠0) (hP:∀ L',L'.length<=r.length->fE 255 .or s L') :
  Calls Tryz.prog 324 #[cp (some ⟨g,0,none⟩),cn (tb t.tx)] w λ e w'=>Y4 w g s (sU s.data.toList.length t.tx r) e w':=by
 have lL:=qh hp;have HM:=qh hm;have aR:=hp.b.lt;have bg:=hp.s;have z:=iw hL;have o:=iw z.2.symm;obtain⟨X,Q⟩:=af (t.at_+t.tx.length);obtain⟨ea,et,eh⟩:=jU z.1;have ar:=qh (show aN s i+(aK s i).length=X by rw[ea,et,Q]);rw[Q] at z o;have E:=FV o.1 hu (by decide);have aq:=qh (show mW (wordsOf s.data.toList X) [40]=true by rw[<- z.2];simp[mW,E,hu]);obtain⟨i2,P⟩:=af (aN s X+(aK s X).length);have ap:=qh P;have aw:=qh (show wordsOf s.data.toList i2=r by
  obtain⟨aD,am,-⟩:=jU o.1;rw[<- P,aD,am];exact o.2.symm)
 obtain⟨x,hx⟩:=af (t.tx);obtain⟨R,hR⟩:=af (sU s.data.toList.length t.tx r);rw[hR];rw[hx] at hR ⊢;obtain⟨v,U⟩:=af (tb x);have HV:=qh U;have OD:=qh (λ w'=>U▸uF x w');have OE:=qh (λ w'=>U▸Af x w');have F:=qh hR;have IM:=qh hP;rw[U];rw[hx] at ho T;clear hR Q P ea et eh z o E hL hu hp hm hP;obtain⟨op,C⟩:=af (kZ x);have aa:=(aej x).1;rw[C] at T aa;have Y6:(v.toList == (⟨#[114,111,119]⟩:ByteArray).toList)=false:=dR (λ e=>by
  have e2:x=yJ:=by rw[<- jB x,U,e];rfl
  subst e2;exact T (C▸row_zero.2))
 have bs:(v.toList == [114,111,119])=false:=by simpa using Y6
 clear Y6;have bo:(op == 0)=false:=by simp[T]
 have a5:(0:Int)<op:=by omega
 have F:=qh (show R=(Pz s.data.toList.length (.args op) [] r).bind λ G l1=>dL s.data.toList.length [41] l1 λ l2=>.ok [kE op G] l2 by rw[<- F.o];unfold sU;rw[if_neg (λ h=>h ho),C,if_pos T]);have Y7:=qh ho;have Y8:=qh C;clear ho T aa U hx C;go_enter Tryz.func324,Tryz.ntmps324;go_upto_region 1 with (fail);obtain⟨W,hW,ad,BR,a0,a2,-⟩:=fA g w;have iV:=qh (show aP W g s i by rw[hW];exact lL.o.alloc _);have xU:=qh (HM.o.kp ad);have mi:=qh BR;rw[<- hW];clear hW BR;go_wp2_with fail;refine (OD.o W).mono ?_;rintro e wa ⟨rfl,S⟩;rw[Y7.o];go_wp2_with fail;refine (OE.o wa).mono ?_;rintro e wb ⟨rfl,ae⟩;rw[Y8.o];have p:EG W wb:=S.trans (ae.mono S.size);have av:=qh (iV.o.below p);have ao:=qh (ad.trans (Kp.of p));have Y9:=qh (mi.o.below p mi.o.lt);have a7:=p.size;clear S ae p;have Dy:=qh (next_any g s i wb av.o);rw[ar.o] at Dy;go_wp2_with (go_at_call 254;(with_reducible refine Dy.o.mono ?_);rintro e w2 ⟨rfl,Y,y⟩;have ay:=qh Y;have bb:=qh y);have Gm:=take_any g s X w2 ay.o [40] (by decide);rw[ap.o,show tb [40]=⟨#[40]⟩ from rfl] at Gm;refine Gm.mono ?_;intro e n f;rw[aq.o,if_pos rfl] at f;obtain⟨rfl,ab,H⟩:=f;have Jf:=qh ab;have IC:=qh ((ao.o.trans y).trans H);have yX:=qh ((Y9.o.kp y (by omega)).kp H (by omega));have aZ:W.heap.size<=n.heap.size:=by have h1:=y.size;have h2:=H.size;omega
 clear Gm Y y ab H;go_upto_region 8 with (fail);obtain⟨M,m⟩:=aH (n.alloc (.cells #[ck cl 3,ck cl 0,cn ⟨#[]⟩,ck cl 0,ck cl 0,cn ⟨#[]⟩,co none 0 0,co none 0 0] 67 (0,0)));have Gn:=qh (show aP M g s i2 by rw[m];exact Jf.o.alloc _);have qH:=qh (show Kp g w M by rw[m];exact IC.o.alloc _);have Gp:=qh (show ZB M w.heap.size by rw[m];exact yX.o.alloc _);have Za:=qh (show ag M n.heap.size 67 #[ck cl 3,ck cl 0,cn ⟨#[]⟩,ck cl 0,ck cl 0,cn ⟨#[]⟩,co none 0 0,co none 0 0] by rw[m];exact ag.new n _ _);have OB:M.heap.size=n.heap.size+1:=by rw[m];simp
 rw[<- m];clear m;go_wp2_with fail;have HC:=Ie g s i2 M Gn.o (HM.o.kp qH.o) op r aw.o IM.o;obtain⟨r2,V⟩:=af (Pz s.data.toList.length (.args op) [] r);rw[V] at HC F;refine HC.mono ?_;have bd:g<n.heap.size:=Jf.o.b.lt;clear HC V;cases r2 with
 | err k =>
  rintro e w4 ⟨rfl,j⟩;have d:R = .err k:=F.o;go_wp2_with fail;refine⟨rfl,?_⟩;rw[d];exact⟨rfl,qH.o.trans j⟩
 | ok G l2 =>
  rintro e w4 ⟨N,css,A,c,rfl,rfl,ac,O,a1,wQ,j⟩;have ak:=qh (show R=dL s.data.toList.length [41] (wordsOf s.data.toList N) λ l=>.ok [kE op G] l from F.o);have DT:=qh ((Gg (B:=M.heap.size) op ac (λ k hk=>hk) O (by unfold maxLen;omega)).imp (q:=λ b=>n.heap.size<b) (λ k hk _=>by omega));have Z:=qh (Za.o.kp j (by omega));have sQ:=qh (Gp.o.kp j (by omega));have vO:=qh wQ;have oJ:=qh (qH.o.trans j);have bc:M.heap.size<=w4.heap.size:=j.size;clear ac O wQ j;go_wp2_with fail;refine (iy op A G.length c w4).mono ?_;rintro e w5 ⟨rfl,a⟩;have aX:w4.heap.size<=w5.heap.size:=a.size;have B5:=Z.o.below a Z.o.lt;have DX:=qh B5;have aE:=qh (sQ.o.below a sQ.o.lt);have Ic:=qh (vO.o.below a);have Ib:=qh (oJ.o.trans (Kp.of a));have al:=qh ((DT.o.keep (dI.of a)).up a.size);clear a;obtain⟨qJ,be,rU,a9,x9,a6,AP,bh,AQ,bf,AU,a4,AV,a3,AZ,a8⟩:=ag.z8 B5;go_wp2_with fail;obtain⟨K,J⟩:=aH (kT w5 n.heap.size (ck cl 4) (ck cl op) (cn ⟨#[]⟩) (ck cl 0) (ck cl 0) (cn ⟨#[]⟩) (co none 0 0) (co A G.length c));have Zc:=qh (show ag K n.heap.size 67 #[ck cl 4,ck cl op,cn ⟨#[]⟩,ck cl 0,ck cl 0,cn ⟨#[]⟩,co none 0 0,co A G.length c] by rw[J];exact Aa DX.o _ _ _ _ _ _ _ _);have UW:=qh (show aP K g s N by rw[J];exact Ic.o.kp (fF _ _ _ _ _ _ _ _ _ _ g (by omega)));have PI:=qh (show Kp g w K by rw[J];exact uD Ib.o (by omega) _ _ _ _ _ _ _ _);have Zd:=qh (show ZB K w.heap.size by
   rw[J]
   (try unfold ZB);unfold ag
   rw[fF _ _ _ _ _ _ _ _ _ _ _ (by omega)];exact aE.o)
  have an:=qh (show cO K (λ b=>n.heap.size<b) K.heap.size (kE op G) (az (kE op G) none 0 A c) by rw[J];exact Eg al.o (λ k hk=>by omega) _ _ _ _ _ _ _ _);have ba:K.heap.size=w5.heap.size:=by rw[J,jK]
  dsimp only[kT] at J;rw[<- J];clear J B5;have uK:=take_any g s N K UW.o [41] (by decide);obtain⟨i6,Kq⟩:=af (aN s N+(aK s N).length);have I:=λ h=>kL (s:=s) (i:=N) (word:=[41]) h;rw[show tb [41]=⟨#[41]⟩ from rfl,Kq] at uK;rw[Kq] at I;refine uK.mono ?_;intro e w8 f;obtain⟨b5,a⟩:=af (mW (wordsOf s.data.toList N) [41]);rw[a] at f;cases b5
  .rw[if_neg (by decide)] at f;obtain⟨rfl,rfl⟩:=f;have d:R = .err (aN s N):=by rw[ak.o];unfold dL;rw[if_neg (by rw[a];decide),mJ]
   have jI:=qh d;clear d uK I Kq;go_wp2_with fail;refine⟨rfl,?_⟩;rw[jI.o];exact⟨rfl,PI.o⟩
  .rw[if_pos rfl] at f;obtain⟨rfl,QS,D⟩:=f;have d:R = .ok [kE op G] (wordsOf s.data.toList i6):=by rw[ak.o];unfold dL;rw[if_pos a,<- (I a).1]
   have jI:=qh d;have aA:=qh (an.o.YX D (λ k hk=>by omega));have aM:=qh QS;have aL:=qh (PI.o.trans D);have B8:=Zc.o.kp D (by omega);have ax:=Zd.o.kp D (by omega);clear d uK I Kq a QS D;obtain⟨iK,iL,iM,iQ,iR,iT,iU,iC⟩:=ag.c8 B8;obtain⟨dM,jY,eQ,jZ,gW,oH,gX,oI,jM,yw,jO,yx,jP,yz,jQ,yA⟩:=ag.z8 ax;go_wp2_with fail;refine bodyPost_ret (v:=.tuple #[.agg #[ck cl 4,ck cl op,cn ⟨#[]⟩,ck cl 0,ck cl 0,cn ⟨#[]⟩,co none 0 0,co A G.length c],cq true]) (by simp[results,Tryz.results324,go_sem,dM,eQ,gW,gX,jM,jO,jP,jQ]) rfl ?_;rw[jI.o];exact Y5 (L:=n.heap.size) (x:=kE op G) (A:=none) (c:=0) (A':=A) (c':=c) aA.o (by omega) aR aM.o aL.o
theorem Ze (g:Nat) (s:ByteArray) (i:Nat) (w:World) (hp:aP w g s i) (hm:TM w g) (t u:Tok) (r:List Tok) (hL:wordsOf s.data.toList i=t :: u :: r) (hu:u.tx = [40]) (U:t.tx=yJ) (hP:∀ L',L'.length<=r.length->fE 255 .or s L') :
  Calls Tryz.prog 324 #[cp (some ⟨g,0,none⟩),cn (tb t.tx)] w λ e w'=>Y4 w g s (sU s.data.toList.length t.tx r) e w':=by
 have lL:=qh hp;have HM:=qh hm;have aM:=hp.b.lt;have aA:=hp.s;have y:=iw hL;have n:=iw y.2.symm;obtain⟨V,K⟩:=af (t.at_+t.tx.length);obtain⟨ea,et,eh⟩:=jU y.1;have an:=qh (show aN s i+(aK s i).length=V by rw[ea,et,K]);rw[K] at y n;have E:=FV n.1 hu (by decide);have am:=qh (show mW (wordsOf s.data.toList V) [40]=true by rw[<- y.2];simp[mW,E,hu]);obtain⟨i2,J⟩:=af (aN s V+(aK s V).length);have al:=qh J;have X:=qh (show wordsOf s.data.toList i2=r by
  obtain⟨ay,ad,-⟩:=jU n.1;rw[<- J,ay,ad];exact n.2.symm)
 obtain⟨x,hx⟩:=af (t.tx);obtain⟨R,hR⟩:=af (sU s.data.toList.length t.tx r);rw[hR];rw[hx] at hR ⊢;obtain⟨v,S⟩:=af (tb x);have HV:=qh S;have OD:=qh (λ w'=>S▸uF x w');have OE:=qh (λ w'=>S▸Af x w');have H:=qh hR;have IM:=qh hP;rw[S];rw[hx] at U;clear hR K J ea et eh y n E hL hu hp hm hP;subst U;have Y6:(v.toList == (⟨#[114,111,119]⟩:ByteArray).toList)=true:=kz (by rw[<- S];rfl);have bs:(v.toList == [114,111,119])=true:=by simpa using Y6
 clear Y6;have H:=qh (show R=(match nameAt r with
  | none=>.err (qf s.data.toList.length r)
  | some nm=>dL s.data.toList.length [41] r.tail λ l1=>.ok [iH 3 0 nm []] l1) by rw[<- H.o];unfold sU;rw[if_neg (λ h=>h row_zero.1),if_neg (λ h=>h row_zero.2)]<;>cases nameAt r <;> rfl)
 have Y7:=qh row_zero.1;have Y8:=qh row_zero.2;clear S;go_enter Tryz.func324,Tryz.ntmps324;go_upto_region 1 with (fail);obtain⟨W,hW,aa,BR,aX,aZ,-⟩:=fA g w;have iV:=qh (show aP W g s i by rw[hW];exact lL.o.alloc _);have xU:=qh (HM.o.kp aa);have mi:=qh BR;rw[<- hW];clear hW BR;go_wp2_with fail;refine (OD.o W).mono ?_;rintro e wa ⟨rfl,Q⟩;rw[Y7.o];go_wp2_with fail;refine (OE.o wa).mono ?_;rintro e wb ⟨rfl,ab⟩;rw[Y8.o];have o:EG W wb:=Q.trans (ab.mono Q.size);have ao:=qh (iV.o.below o);have ak:=qh (aa.trans (Kp.of o));have Y9:=qh (mi.o.below o mi.o.lt);have a3:=o.size;clear Q ab o;have Dy:=qh (next_any g s i wb ao.o);rw[an.o] at Dy;go_wp2_with (go_at_call 254;(with_reducible refine Dy.o.mono ?_);rintro e w2 ⟨rfl,Y,q⟩;have av:=qh Y;have a7:=qh q);have Gm:=take_any g s V w2 av.o [40] (by decide);rw[al.o,show tb [40]=⟨#[40]⟩ from rfl] at Gm;refine Gm.mono ?_;intro e m d;rw[am.o,if_pos rfl] at d;obtain⟨rfl,Z,I⟩:=d;have Jf:=qh Z;have IC:=qh ((ak.o.trans q).trans I);have yX:=qh ((Y9.o.kp q (by omega)).kp I (by omega));have aR:W.heap.size<=m.heap.size:=by have h1:=q.size;have h2:=I.size;omega
 clear Gm Y q Z I;go_upto_region 8 with (fail);obtain⟨O,f⟩:=aH (m.alloc (.cells #[ck cl 3,ck cl 0,cn ⟨#[]⟩,ck cl 0,ck cl 0,cn ⟨#[]⟩,co none 0 0,co none 0 0] 67 (0,0)));have Gn:=qh (show aP O g s i2 by rw[f];exact Jf.o.alloc _);have qH:=qh (show Kp g w O by rw[f];exact IC.o.alloc _);have Gp:=qh (show ZB O w.heap.size by rw[f];exact yX.o.alloc _);have Za:=qh (show ag O m.heap.size 67 #[ck cl 3,ck cl 0,cn ⟨#[]⟩,ck cl 0,ck cl 0,cn ⟨#[]⟩,co none 0 0,co none 0 0] by rw[f];exact ag.new m _ _);have OB:O.heap.size=m.heap.size+1:=by rw[f];simp
 rw[<- f];clear f;go_wp2_with fail;refine (Ov g s i2 O Gn.o).mono ?_;intro e F hl;unfold ab6 at hl;rw[X.o] at hl;obtain⟨N,hN⟩:=af (nameAt r);rw[hN] at hl;have HN:=qh hN;have a9:g<m.heap.size:=Jf.o.b.lt;cases N with
 | none =>
  obtain⟨rfl,rfl⟩:=hl;have a:R = .err (qf s.data.toList.length r):=by rw[H.o,HN.o]
  go_wp2_with fail;refine⟨rfl,?_⟩;rw[a];exact⟨rfl,qH.o⟩
 | some nm =>
  obtain⟨P,rfl,Zb,wQ,C⟩:=hl;have aw:=OC (s:=s) (i:=i2) (by rw[X.o];exact hN) aA;have WE:=qh (show nm.length<=maxLen by unfold maxLen;omega);obtain⟨v4,z⟩:=af (tb nm);have ar:=qh z;have ac:=qh (show R=dL s.data.toList.length [41] (wordsOf s.data.toList P) λ l=>.ok [iH 3 0 nm []] l by rw[H.o,HN.o,Zb]);have oJ:=qh (qH.o.trans C);have B4:=Za.o.kp C (by omega);have aq:=qh B4;have vO:=qh wQ;have sQ:=qh (Gp.o.kp C (by omega));have a8:O.heap.size<=F.heap.size:=C.size;have aE:=qh (show cO F (λ b=>m.heap.size<b) F.heap.size (iH 3 0 nm []) (az (iH 3 0 nm []) none 0 none 0) from
   sV (B:=F.heap.size) (css:=[]) 3 0 nm WE.o ⟨rfl,λ j h=>absurd h (by simp)⟩ (λ k hk=>by omega) ⟨rfl,.inl ⟨rfl,rfl⟩⟩ (ct _))
  rw[z];clear hN z Zb wQ C aw;obtain⟨qJ,ba,rU,a5,x9,a2,AP,bc,AQ,bb,AU,a1,AV,a0,AZ,a4⟩:=ag.z8 B4;go_wp2_with fail;obtain⟨M,T⟩:=aH (F.setCell ⟨m.heap.size,2,none⟩ (cn v4));have QR:∀ k,k≠m.heap.size->M.heap[k]?=F.heap[k]?:=λ k hk=>by rw[T];exact Below.heap_setCell F ⟨m.heap.size,2,none⟩ _ k hk
  have a6:M.heap.size=F.heap.size:=by rw[T];simp[World.setCell]
  have UW:=qh (vO.o.kp (QR g (by omega)));have PI:=qh (show Kp g w M by rw[T];exact Gl oJ.o (by omega) _ _);have Zc:=qh (show ag M m.heap.size 67 #[ck cl 3,ck cl 0,cn v4,ck cl 0,ck cl 0,cn ⟨#[]⟩,co none 0 0,co none 0 0] by
   rw[T];have h1:=aq.o.dS 2 (cn v4);simpa using h1)
  have Zd:=qh (show ZB M w.heap.size by (try unfold ZB);unfold ag;rw[QR _ (by omega)];exact sQ.o);have ae:=qh ((aE.o.keep ⟨by omega,λ k hk _=>QR k (by omega)⟩).up (show F.heap.size<=M.heap.size by omega));rw[<- T];clear T B4;have uK:=take_any g s P M UW.o [41] (by decide);obtain⟨i6,Kq⟩:=af (aN s P+(aK s P).length);have G:=λ h=>kL (s:=s) (i:=P) (word:=[41]) h;rw[show tb [41]=⟨#[41]⟩ from rfl,Kq] at uK;rw[Kq] at G;refine uK.mono ?_;intro e w8 d;obtain⟨b5,p⟩:=af (mW (wordsOf s.data.toList P) [41]);rw[p] at d;cases b5
  .rw[if_neg (by decide)] at d;obtain⟨rfl,rfl⟩:=d;have a:R = .err (aN s P):=by rw[ac.o];unfold dL;rw[if_neg (by rw[p];decide),mJ]
   have jI:=qh a;clear a uK G Kq;go_wp2_with fail;refine⟨rfl,?_⟩;rw[jI.o];exact⟨rfl,PI.o⟩
  .rw[if_pos rfl] at d;obtain⟨rfl,QS,D⟩:=d;have a:R = .ok [iH 3 0 nm []] (wordsOf s.data.toList i6):=by rw[ac.o];unfold dL;rw[if_pos p,<- (G p).1]
   have jI:=qh a;have ax:=qh (ae.o.YX D (λ k hk=>by omega));have aL:=qh QS;have aD:=qh (PI.o.trans D);have B8:=Zc.o.kp D (by omega);have ap:=Zd.o.kp D (by omega);clear a uK G Kq p QS D;obtain⟨iK,iL,iM,iQ,iR,iT,iU,iC⟩:=ag.c8 B8;obtain⟨dM,jY,eQ,jZ,gW,oH,gX,oI,jM,yw,jO,yx,jP,yz,jQ,yA⟩:=ag.z8 ap;go_wp2_with fail;refine bodyPost_ret (v:=.tuple #[.agg #[ck cl 3,ck cl 0,cn v4,ck cl 0,ck cl 0,cn ⟨#[]⟩,co none 0 0,co none 0 0],cq true]) (by simp[results,Tryz.results324,go_sem,dM,eQ,gW,gX,jM,jO,jP,jQ]) rfl ?_;rw[jI.o];have z:=ar.o;subst z;exact Y5 (L:=m.heap.size) (x:=iH 3 0 nm []) (A:=none) (c:=0) (A':=none) (c':=0) ax.o (by omega) aM aL.o aD.o
theorem VB (g:Nat) (w:World) (x:List UInt8) (i:gy x=0) (o:kZ x=0) (k:x≠yJ) :
  CS 324 #[cp (some ⟨g,0,none⟩),cn (tb x)] w (.tuple #[.agg #[ck cl 0,ck cl 0,cn ⟨#[]⟩,ck cl 0,ck cl 0,cn ⟨#[]⟩,co none 0 0,co none 0 0],cq false]):=by
 obtain⟨v,c⟩:=af (tb x);have m:=qh (λ w'=>c▸uF x w');have l:=qh (λ w'=>c▸Af x w');rw[i] at m;rw[o] at l;have n:(v.toList == (⟨#[114,111,119]⟩:ByteArray).toList)=false:=dR (λ e=>by
  have u:x=yJ:=by rw[<- jB x,c,e];rfl
  exact k u)
 have F:(v.toList == [114,111,119])=false:=by simpa using n
 clear n;rw[c];clear c i o k;go_enter Tryz.func324,Tryz.ntmps324;go_upto_region 1 with (fail);obtain⟨W,q,-,j,-,-,f⟩:=YJ 0 w;rw[<- q];clear q;go_wp2_with fail;refine (m.o W).mono ?_;rintro e s ⟨rfl,b⟩;go_wp2_with fail;refine (l.o s).mono ?_;rintro e wb ⟨rfl,d⟩;have a:EG W wb:=b.trans (d.mono b.size);have h:=f.trans (a.mono f.size);have A:=j.o.below a j.o.lt;clear b d a;obtain⟨D,M,C,J,y,G,B,K,E,L,z,N,r,H,t,I⟩:=ag.z8 A;go_wp2_with fail;refine bodyPost_ret (v:=.tuple #[.agg #[ck cl 0,ck cl 0,cn ⟨#[]⟩,ck cl 0,ck cl 0,cn ⟨#[]⟩,co none 0 0,co none 0 0],cq false]) (by simp[results,Tryz.results324,go_sem,D,C,y,B,E,z,r,t]) rfl ⟨rfl,?_⟩;exact ((((((((h.setCell (p:=⟨w.heap.size,0,none⟩) (cr _) _).setCell (p:=⟨w.heap.size,1,none⟩) (cr _) _).setCell (p:=⟨w.heap.size,2,none⟩) (cr _) _).setCell (p:=⟨w.heap.size,3,none⟩) (cr _) _).setCell (p:=⟨w.heap.size,4,none⟩) (cr _) _).setCell (p:=⟨w.heap.size,5,none⟩) (cr _) _).setCell (p:=⟨w.heap.size,6,none⟩) (cr _) _).setCell (p:=⟨w.heap.size,7,none⟩) (cr _) _)
end Go.Proofs.YtcnagconagpkcaaGreatDoor
namespace Go.Proofs.YtcnagconagpkcaaGreatDoor
open Go.RowKit Vtx
theorem Gs (p:UInt8->Bool):∀ l:List UInt8,l.dropWhile p=l.drop (bJ p l)
 | []=>rfl
 | c :: r=>by
  rw[List.dropWhile_cons,bJ];cases h:p c
  .simp
  .simp[Gs p r]
theorem Zf {T s a:List UInt8} {n:Nat} (h:n<s.length) (b:s.getD n 0≠32) (c:T=a ++ Bc a.getLast? (s.drop n)):T=(a ++ [s.getD n 0]) ++ Bc (a ++ [s.getD n 0]).getLast? (s.drop (n+1)):=by
 rw[c,drop_cons h,Td _ _ b];simp
theorem QT {T s a:List UInt8} {n J:Nat} (h:n<s.length) (c:s.getD n 0=32) (f:J=n+bJ bC (s.drop n)) (e:T=a ++ Bc a.getLast? (s.drop n)) :
  T=a ++ if lF a.getLast? (s.drop J) then 32 :: Bc (some 32) (s.drop J) else Bc a.getLast? (s.drop J):=by
 have b:s.drop n=32 :: s.drop (n+1):=by rw[drop_cons h,c]
 have g:(s.drop (n+1)).dropWhile bC=s.drop J:=by
  have d:(s.drop n).dropWhile bC=(s.drop (n+1)).dropWhile bC:=by rw[b,List.dropWhile_cons];rfl
  rw[<- d,Gs,List.drop_drop,f]
 rw[e,b,N9,g]
theorem VC {s a:List UInt8} {J:Nat} (h:¬ J<s.length):lF a.getLast? (s.drop J)=false:=by
 rw[List.drop_eq_nil_of_le (by omega)];unfold lF;cases a.getLast? <;> rfl
theorem VD {s b:List UInt8} {a:UInt8} {J:Nat} (h:J<s.length):lF (b ++ [a]).getLast? (s.drop J)=((fO a || decide (a=35)) && fO (s.getD J 0)):=by
 rw[drop_cons h,List.getLast?_append];rfl
theorem Jh {T s a:List UInt8} {J:Nat} (b:lF a.getLast? (s.drop J)=true) (h:T=a ++ if lF a.getLast? (s.drop J) then 32 :: Bc (some 32) (s.drop J) else Bc a.getLast? (s.drop J)):T=(a ++ [32]) ++ Bc (a ++ [32]).getLast? (s.drop J):=by
 rw[h,if_pos b];simp
theorem wU {T s a:List UInt8} {J:Nat} (b:lF a.getLast? (s.drop J)=false) (h:T=a ++ if lF a.getLast? (s.drop J) then 32 :: Bc (some 32) (s.drop J) else Bc a.getLast? (s.drop J)):T=a ++ Bc a.getLast? (s.drop J):=by
 rw[h,if_neg (by rw[b];decide)]
end Go.Proofs.YtcnagconagpkcaaGreatDoor
