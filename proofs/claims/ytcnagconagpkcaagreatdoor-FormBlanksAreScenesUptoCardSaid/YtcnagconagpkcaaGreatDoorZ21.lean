/- Lemmas. -/
import Derived.Test.YtcnagconagpkcaaGreatDoorZ20
import Derived.Recover
import Derived.Defers
import Derived.Laws.Pointers
set_option maxHeartbeats 8000000
set_option maxRecDepth 100000
open Go.Value renaming int->bs, string->bv, slice->bw, pointer->bx, bool->bA
open Go.IntKind renaming i64->bt
open Go.Ending renaming returned->bB, returned->bR
open Nat renaming le_refl->bD, zero_le->bQ
open Bool renaming or_eq_false_iff->bE, eq_false_iff->bK, and_eq_true->bN, true_and->bO
open Go.IntWalk renaming i64_in->bL
namespace Go.Proofs.YtcnagconagpkcaaGreatDoor
open Go.RowKit Vtx
attribute [local go_sem ↓] Go.wp_at_zero Go.wp_at_succ
theorem Je (g:Nat) (s:ByteArray) (i:Nat) (w:World) (E:aT w g s i) (hm:TM w g) (t:Tok) (r:List Tok) (hL:wordsOf s.data.toList i=t :: r) (ht:t.touch=false) (T:t.tx = [40]) (hP:∀ L',L'.length<=r.length->fH 255 .or s L') :
  Calls Tryz.prog 319 #[bx (some ⟨g,0,none⟩)] w λ e w'=>wG w g s (Pz s.data.toList.length .cO [] (t :: r)) e w':=by
 have nV:=qh E;have HM:=qh hm;have av:=E.b.lt;have bc:=E.s;have j:=iH hL;obtain⟨ea,et,eh⟩:=jV j.1;obtain⟨c0,tl,v,a9,aM,M,ad,hv,d,a7,zL,qO,I9,L,an,J,ji⟩:=kR j.1;have Be:=gq j.1;rw[aY] at Be;have PK:=qh (show r=wordsOf s.data.toList (aS s i+(aO s i).length) by rw[ea,et];exact j.2);have Rh:=qh (show t.at_=aS s i from ea.symm);have sQ:=qh j.1;have OD:=qh hL;have HV:=qh hv;have D9:=qh (show tb (aO s i)=v by rw[et];exact hv);have jP:=qh eh;have a4:=qh (λ W (E:aT W g s i)=>iD g s i W E);have hc:lF t.tx=false:=by rw[T];decide
 have PN:c0=40:=by rw[M] at T;injection T
 have C:=qh (PL (n:=s.data.toList.length) (r:=r) ht T);rw[ht] at jP;obtain⟨R,hR⟩:=af (Pz s.data.toList.length .cO [] (t :: r));rw[hR] at C ⊢;rw[L] at hc;simp only[bE,decide_eq_false_iff_not] at hc;obtain⟨⟨⟨⟨⟨⟨h0,aL⟩,ak⟩,qI⟩,iG⟩,ax⟩,ao⟩:=hc;rw[h0] at zL;obtain⟨bf,bd⟩:=fA (z:=64) (n:=64) d aL rfl rfl;obtain⟨a5,bg⟩:=fA (z:=35) (n:=35) d ak rfl rfl;obtain⟨be,a6⟩:=fA (z:=39) (n:=39) d qI rfl rfl;obtain⟨RS,RU⟩:=fA (z:=123) (n:=123) d iG rfl rfl;have st:(v.toList == [116,114,117,101])=false:=by have h:=ji [116,114,117,101] ax;simpa [tb] using h
 have sf:(v.toList == [102,97,108,115,101])=false:=by have h:=ji [102,97,108,115,101] ao;simpa [tb] using h
 have a8:((v[0].toNat:Int) == 40)=true:=by rw[d,PN];rfl
 have ba:(v[0].toNat == 40)=true:=by rw[d,PN];rfl
 obtain⟨i1,A⟩:=af (aS s i+(aO s i).length);have aq:=qh A;rw[A] at PK;have JA:=qh hP;clear hR A hP;clear d L an J ji j ea et eh M ad aM Be hv hL E hm;go_enter Tryz.func319,Tryz.ntmps319;go_upto_region 1 with (fail);obtain⟨W,hW,S,BR,a0,ac,-⟩:=fB g w;have iY:=qh (show aT W g s i by rw[hW];exact nV.o.alloc _);have vM:=qh (HM.o.kp S);have mJ:=qh BR;rw[<- hW];clear hW BR;have d2:W.cell? ⟨g,2,none⟩=some (bv v):=by have h:=iY.o.b.cell 2;rw[show tb (aO s i)=v from D9.o] at h;exact h
 have d3:W.cell? ⟨g,3,none⟩=some (bA false):=by have h:=iY.o.b.cell 3;rw[jP.o] at h;exact h
 have Ew:=qh (next_any g s i W iY.o);rw[aq.o] at Ew;go_wp2_with (first | (go_at_call 284;(with_reducible refine (zL.o _).mono ?_);rintro e w1 ⟨rfl,rfl⟩) | (go_at_call 254;(with_reducible refine Ew.o.mono ?_);rintro e w2 ⟨rfl,O,u⟩));have ay:=qh O;have jA:=qh (S.trans u);have rU:=qh (mJ.o.kp u (by omega));have a1:W.heap.size<=w2.heap.size:=u.size;have HC:=JA.o r (bD _) g i1 w2 ay.o (HM.o.kp jA.o) PK.o.symm;obtain⟨r2,Q⟩:=af (Pz s.data.toList.length .or [] r);rw[Q] at HC C;refine HC.mono ?_;clear HC Q O u;cases r2 with
 | err k =>
  rintro e F ⟨rfl,f⟩;have a:R = .err k:=C.o;go_wp2_with fail;refine⟨rfl,?_⟩;rw[a];exact⟨rfl,jA.o.trans f⟩
 | ok es l1 =>
  rintro e F ⟨y,x,a3,rfl,rfl,rfl,K,N,f⟩;have X:=qh K;obtain⟨ae,aE,Y,ar,aR,Z,al⟩:=K;rename_i I D G H a2;clear aR Z al ae aE Y ar;have P:(ai y I D G H).toArray = (BC y I D G y.ar.length H):=rfl;rw[P];clear P;have aW:w2.heap.size<=F.heap.size:=f.size;have C:=qh (show R=dR s.data.toList.length [41] (wordsOf s.data.toList x) λ l2=>.ok [y] l2 from C.o);have JX:=qh N;have Aj:=qh (jA.o.trans f);have zM:=qh (rU.o.kp f (by omega));clear N f;go_upto_region 9 with (fail);obtain⟨B,c⟩:=aC (F.alloc (.cells (BC y I D G y.ar.length H) 67 (0,0)));have Ho:=qh (show aT B g s x by rw[c];exact JX.o.alloc _);have qU:=qh (show Kp g w B by rw[c];exact Aj.o.alloc _);have Hq:=qh (show ZB B w.heap.size by rw[c];exact zM.o.alloc _);have aw:=qh (show ah B F.heap.size 67 (BC y I D G y.ar.length H) by rw[c];exact ah.new F _ _);have am:=qh (show dD B (λ b=>W.heap.size<=b) B.heap.size y (ai y I D G H) by
   rw[c];exact ((X.o.imp (q:=λ b=>W.heap.size<=b) (λ k hk _=>by omega)).keep (dN.of ((Below.refl _ _).alloc (bD _) _))).up (by simp))
  have bb:g<F.heap.size:=JX.o.b.lt;rw[<- c];clear c;go_wp2_with fail;have V:=take_any g s x B Ho.o [41] (by decide);obtain⟨i6,U⟩:=af (aS s x+(aO s x).length);have p:=λ h=>kQ (s:=s) (i:=x) (word:=[41]) h;rw[show tb [41]=⟨#[41]⟩ from rfl,U] at V;rw[U] at p;refine V.mono ?_;intro e w8 l;obtain⟨b5,o⟩:=af (ni (wordsOf s.data.toList x) [41]);rw[o] at l;cases b5
  .rw[if_neg (by decide)] at l;obtain⟨rfl,rfl⟩:=l;have a:R = .err (aS s x):=by rw[C.o];unfold dR;rw[if_neg (by rw[o];decide),mV]
   have jB:=qh a;clear a V p U;go_wp2_with fail;refine⟨rfl,?_⟩;rw[jB.o];exact⟨rfl,qU.o⟩
  .rw[if_pos rfl] at l;obtain⟨rfl,ZF,m⟩:=l;have a:R = .ok [y] (wordsOf s.data.toList i6):=by rw[C.o];unfold dR;rw[if_pos o,<- (p o).1]
   have jB:=qh a;have aD:=qh (am.o.Zm m (λ k hk=>by omega));have ap:=qh ZF;have ab:=qh (qU.o.trans m);have B8:=aw.o.kp m (by omega);have aa:=Hq.o.kp m (by omega);clear a V p U o ZF m;obtain⟨gG,fZ,fV,gI,gJ,gK,gQ,fM⟩:=ah.c8 B8;obtain⟨dO,kD,eH,kE,ik,oV,iq,oW,jK,yQ,jL,yR,jM,yS,jO,yT⟩:=ah.z8 aa;go_wp2_with fail;refine bodyPost_ret (v:=.agg (BC y I D G y.ar.length H)) (by simp[results,Tryz.results319,go_sem,dO,eH,ik,iq,jK,jL,jM,jO]) rfl ?_;rw[jB.o];exact sZ aD.o ac av ap.o ab.o
theorem PO (g:Nat) (s:ByteArray) (i:Nat) (w:World) (k:aT w g s i) (P:TM w g) (t:Tok) (r:List Tok) (H:wordsOf s.data.toList i=t :: r) (X:t.touch=false) (F:lF t.tx=false) (T:t.tx≠[40]) (q:nameB t.tx=false) :
  Calls Tryz.prog 319 #[bx (some ⟨g,0,none⟩)] w λ e w'=>wG w g s (Pz s.data.toList.length .cO [] (t :: r)) e w':=by
 have Z:=qh k;have U:=qh P;have ae:=k.b.lt;have am:=k.s;have a:=iH H;obtain⟨I,D,M⟩:=jV a.1;obtain⟨c0,tl,v,ak,B,j,x,G,b,ac,S,C,I9,f,l,d,E⟩:=kR a.1;have J:=gq a.1;rw[aY] at J;have PK:=qh (show r=wordsOf s.data.toList (aS s i+(aO s i).length) by rw[I,D];exact a.2);have Rh:=qh (show t.at_=aS s i from I.symm);have sQ:=qh a.1;have OD:=qh H;have HV:=qh G;have V:=qh (show tb (aO s i)=v by rw[D];exact G);have L:=qh M;have y:=qh (λ W (k:aT W g s i)=>iD g s i W k);have PN:c0≠40:=λ e=>T (yx a.1 (w:=tl) (by rw[j,e]));rw[ZK X F T q,Rh.o];rw[X] at L;rw[f] at F;simp only[bE,decide_eq_false_iff_not] at F;obtain⟨⟨⟨⟨⟨⟨h0,R⟩,N⟩,qI⟩,iG⟩,Q⟩,O⟩:=F;rw[h0] at S;obtain⟨ap,an⟩:=fA (z:=64) (n:=64) b R rfl rfl;obtain⟨aa,aq⟩:=fA (z:=35) (n:=35) b N rfl rfl;obtain⟨ao,ab⟩:=fA (z:=39) (n:=39) b qI rfl rfl;obtain⟨RS,RU⟩:=fA (z:=123) (n:=123) b iG rfl rfl;have st:(v.toList == [116,114,117,101])=false:=by have h:=E [116,114,117,101] Q;simpa [tb] using h
 have sf:(v.toList == [102,97,108,115,101])=false:=by have h:=E [102,97,108,115,101] O;simpa [tb] using h
 obtain⟨ad,al⟩:=fA (z:=40) (n:=40) b PN rfl rfl;rw[l] at q;by_cases hl:nN c0=true
 .rw[hl] at q C;have Y:bH.contains t.tx=true:=by simpa using q
  rw[Y] at I9;clear hl q Y;clear b f l d E a I D M j x B J G H k P;go_enter Tryz.func319,Tryz.ntmps319;go_upto_region 1 with (fail);obtain⟨W,m,c,u,A,K,-⟩:=fB g w;have o:=qh (show aT W g s i by rw[m];exact Z.o.alloc _);have vM:=qh (U.o.kp c);have mJ:=qh u;rw[<- m];clear m u;have d2:W.cell? ⟨g,2,none⟩=some (bv v):=by have h:=o.o.b.cell 2;rw[show tb (aO s i)=v from V.o] at h;exact h
  have d3:W.cell? ⟨g,3,none⟩=some (bA false):=by have h:=o.o.b.cell 3;rw[L.o] at h;exact h
  go_wp2_with (first | (go_at_call 284;(with_reducible refine (S.o _).mono ?_);rintro e p ⟨rfl,rfl⟩) | (go_at_call 55;(with_reducible refine (C.o _).mono ?_);rintro e p ⟨rfl,rfl⟩) | (go_at_call 56;(with_reducible refine (I9.o _).mono ?_);rintro e p ⟨rfl,rfl⟩) | (go_at_call 256;(with_reducible refine (y.o _ o.o).mono ?_);rintro e p ⟨rfl,rfl⟩));exact⟨rfl,rfl,c⟩
 .rw[bK.2 hl] at C;clear hl q;clear b f l d E a I D M j x B J G H k P;go_enter Tryz.func319,Tryz.ntmps319;go_upto_region 1 with (fail);obtain⟨W,m,c,u,A,K,-⟩:=fB g w;have o:=qh (show aT W g s i by rw[m];exact Z.o.alloc _);have vM:=qh (U.o.kp c);have mJ:=qh u;rw[<- m];clear m u;have d2:W.cell? ⟨g,2,none⟩=some (bv v):=by have h:=o.o.b.cell 2;rw[show tb (aO s i)=v from V.o] at h;exact h
  have d3:W.cell? ⟨g,3,none⟩=some (bA false):=by have h:=o.o.b.cell 3;rw[L.o] at h;exact h
  go_wp2_with (first | (go_at_call 284;(with_reducible refine (S.o _).mono ?_);rintro e p ⟨rfl,rfl⟩) | (go_at_call 55;(with_reducible refine (C.o _).mono ?_);rintro e p ⟨rfl,rfl⟩) | (go_at_call 256;(with_reducible refine (y.o _ o.o).mono ?_);rintro e p ⟨rfl,rfl⟩));exact⟨rfl,rfl,c⟩
theorem Jf (g:Nat) (s:ByteArray) (i:Nat) (w:World) (I:aT w g s i) (hm:TM w g) (t:Tok) (r:List Tok) (hL:wordsOf s.data.toList i=t :: r) (ht:t.touch=false) (hc:lF t.tx=false) (yG:t.tx≠[40]) (P:nameB t.tx=true) (hd:pR t r=false) :
  Calls Tryz.prog 319 #[bx (some ⟨g,0,none⟩)] w λ e w'=>wG w g s (Pz s.data.toList.length .cO [] (t :: r)) e w':=by
 have nV:=qh I;have HM:=qh hm;have ab:=I.b.lt;have aR:=I.s;have l:=iH hL;obtain⟨ea,et,eh⟩:=jV l.1;obtain⟨c0,tl,v,aD,ac,H,T,y,o,aw,zL,qO,I9,G,K,E,ji⟩:=kR l.1;have Be:=gq l.1;rw[aY] at Be;have PK:=qh (show r=wordsOf s.data.toList (aS s i+(aO s i).length) by rw[ea,et];exact l.2);have Rh:=qh (show t.at_=aS s i from ea.symm);have sQ:=qh l.1;have OD:=qh hL;have HV:=qh y;have D9:=qh (show tb (aO s i)=v by rw[et];exact y);have jP:=qh eh;have ap:=qh (λ W (I:aT W g s i)=>iD g s i W I);have PN:c0≠40:=λ e=>yG (yx l.1 (w:=tl) (by rw[H,e]));rw[ht] at jP;have JZ:=qh (RQ (n:=s.data.toList.length) (r:=r) ht hc yG P hd);obtain⟨R,hR⟩:=af (Pz s.data.toList.length .cO [] (t :: r));rw[hR] at JZ ⊢;rw[G] at hc;simp only[bE,decide_eq_false_iff_not] at hc;obtain⟨⟨⟨⟨⟨⟨h0,ao⟩,al⟩,qI⟩,iG⟩,an⟩,am⟩:=hc;rw[h0] at zL;obtain⟨a1,aW⟩:=fA (z:=64) (n:=64) o ao rfl rfl;obtain⟨ar,a2⟩:=fA (z:=35) (n:=35) o al rfl rfl;obtain⟨a0,av⟩:=fA (z:=39) (n:=39) o qI rfl rfl;obtain⟨RS,RU⟩:=fA (z:=123) (n:=123) o iG rfl rfl;have st:(v.toList == [116,114,117,101])=false:=by have h:=ji [116,114,117,101] an;simpa [tb] using h
 have sf:(v.toList == [102,97,108,115,101])=false:=by have h:=ji [102,97,108,115,101] am;simpa [tb] using h
 obtain⟨ay,aE⟩:=fA (z:=40) (n:=40) o PN rfl rfl;rw[K,bN] at P;rw[P.1] at qO;have hr:bH.contains t.tx=false:=by simpa using P.2
 rw[hr] at I9;obtain⟨O,C⟩:=af (t.at_);obtain⟨J,hJ⟩:=af (O+v.size);have RX:J=t.at_+t.tx.length:=by rw[<- hJ,<- C,<- y,kY]
 have f:=zI (s:=s.data.toList) (t:=t) RX;have N:r=wordsOf s.data.toList J:=by rw[RX];exact l.2
 rw[<- N,hd,aY] at f;have aL:J<=s.size:=by rw[RX];omega
 have Q:=qh (show aS s i=O by rw[ea,C]);have ak:((O:Nat):Int)+(v.size:Nat)=(J:Nat):=by omega
 have ax:IntKind.i64.wrap (((O:Nat):Int)+(v.size:Nat))=(J:Nat):=by rw[ak];exact bL _ (by omega)
 obtain⟨i1,u⟩:=af (aS s i+(aO s i).length);have aa:=qh u;rw[u] at PK;have Dv:t.tx.length<=4000:=by omega
 have PI:=qh Dv;by_cases hJ1:J<s.size
 .have ae:s[J].toNat≠40:=λ e=>by
   rw[decide_eq_true hJ1,bO,lS hJ1] at f;have h2:=of_decide_eq_false f.symm;exact h2 (UInt8.toNat_inj.1 e)
  have aq:(((s[J]'hJ1).toNat:Int) == 40)=false:=by simp;omega
  have aM:((s[J]'hJ1).toNat == 40)=false:=by simp;omega
  have ad:((J:Nat):Int)<((s.size:Nat):Int):=by omega
  clear ae;clear hr P o f N C u hR RX Dv G K E ji l ea et eh H T ac Be y hL I hm;go_enter Tryz.func319,Tryz.ntmps319;go_upto_region 1 with (fail);obtain⟨W,M,q,S,Z,F,-⟩:=fB g w;have D:=qh (show aT W g s i by rw[M];exact nV.o.alloc _);have vM:=qh (HM.o.kp q);have X:=qh S;rw[<- M];clear M S;have d2:W.cell? ⟨g,2,none⟩=some (bv v):=by have h:=D.o.b.cell 2;rw[show tb (aO s i)=v from D9.o] at h;exact h
  have d3:W.cell? ⟨g,3,none⟩=some (bA false):=by have h:=D.o.b.cell 3;rw[jP.o] at h;exact h
  have d1:W.cell? ⟨g,1,none⟩=some (bs bt (O:Nat)):=by have h:=D.o.b.cell 1;rw[Q.o] at h;exact h
  go_upto_region 13 with (first | (go_at_call 284;(with_reducible refine (zL.o _).mono ?_);rintro e Y ⟨rfl,rfl⟩) | (go_at_call 55;(with_reducible refine (qO.o _).mono ?_);rintro e Y ⟨rfl,rfl⟩) | (go_at_call 56;(with_reducible refine (I9.o _).mono ?_);rintro e Y ⟨rfl,rfl⟩));go_quiet (fail);obtain⟨W1,m⟩:=aC (W.drewN nq);have d:IY W W1:=by rw[m];exact (Below.refl _ _).drewN nq
  have U:=qh (D.o.below d);have Du:=qh (q.trans (Kp.of d));have BA:=qh (X.o.below d X.o.lt);have V:W.heap.size<=W1.heap.size:=d.size;rw[<- m];clear m d d1 d2 d3;have d0:W1.cell? ⟨g,0,none⟩=some (bv s):=U.o.b.cell 0;have Ew:=qh (next_any g s i W1 U.o);rw[aa.o] at Ew;go_wp2_with (go_at_call 254;(with_reducible refine Ew.o.mono ?_);rintro e a ⟨rfl,vZ,p⟩;have I7:=qh vZ;have Em:=qh (Du.o.trans p);have b:=BA.o.kp p (by omega);have dO:a.cell? ⟨w.heap.size,0,none⟩=some (bs bt 0):=b.cell 0;have kD:a.frozen? ⟨w.heap.size,0,none⟩=false:=b.frozen 0;have eH:a.cell? ⟨w.heap.size,1,none⟩=some (bs bt 0):=b.cell 1;have kE:a.frozen? ⟨w.heap.size,1,none⟩=false:=b.frozen 1;have ik:a.cell? ⟨w.heap.size,2,none⟩=some (bv ⟨#[]⟩):=b.cell 2;have oV:a.frozen? ⟨w.heap.size,2,none⟩=false:=b.frozen 2;have iq:a.cell? ⟨w.heap.size,3,none⟩=some (bs bt 0):=b.cell 3;have oW:a.frozen? ⟨w.heap.size,3,none⟩=false:=b.frozen 3;have jK:a.cell? ⟨w.heap.size,4,none⟩=some (bs bt 0):=b.cell 4;have yQ:a.frozen? ⟨w.heap.size,4,none⟩=false:=b.frozen 4;have jL:a.cell? ⟨w.heap.size,5,none⟩=some (bv ⟨#[]⟩):=b.cell 5;have yR:a.frozen? ⟨w.heap.size,5,none⟩=false:=b.frozen 5;have jM:a.cell? ⟨w.heap.size,6,none⟩=some (bw none 0 0):=b.cell 6;have yS:a.frozen? ⟨w.heap.size,6,none⟩=false:=b.frozen 6;have jO:a.cell? ⟨w.heap.size,7,none⟩=some (bw none 0 0):=b.cell 7;have yT:a.frozen? ⟨w.heap.size,7,none⟩=false:=b.frozen 7);refine bodyPost_ret (v:=.agg #[bs bt 2,bs bt 0,bv v,bs bt 0,bs bt 0,bv ⟨#[]⟩,bw none 0 0,bw none 0 0]) (by simp[results,Tryz.results319,go_sem,dO,eH,ik,iq,jK,jL,jM,jO]) rfl ?_;have y:=HV.o;subst y;rw[JZ.o,PK.o];exact sZ (L:=W.heap.size) (x:=iO 2 0 t.tx []) (A:=none) (c:=0) (A':=none) (c':=0) (tH (B:=W.heap.size) (css:=[]) 2 0 t.tx (by have:=PI.o;unfold maxLen;omega) ⟨rfl,λ j h=>absurd h (by simp)⟩ (λ k hk=>hk) ⟨rfl,.inl ⟨rfl,rfl⟩⟩ (bQ _)) F ab I7.o Em.o
 .have ad:¬ ((J:Nat):Int)<((s.size:Nat):Int):=by omega
  clear hr P o f N C u hR RX Dv G K E ji l ea et eh H T ac Be y hL I hm;go_enter Tryz.func319,Tryz.ntmps319;go_upto_region 1 with (fail);obtain⟨W,M,q,S,Z,F,-⟩:=fB g w;have D:=qh (show aT W g s i by rw[M];exact nV.o.alloc _);have vM:=qh (HM.o.kp q);have X:=qh S;rw[<- M];clear M S;have d2:W.cell? ⟨g,2,none⟩=some (bv v):=by have h:=D.o.b.cell 2;rw[show tb (aO s i)=v from D9.o] at h;exact h
  have d3:W.cell? ⟨g,3,none⟩=some (bA false):=by have h:=D.o.b.cell 3;rw[jP.o] at h;exact h
  have d1:W.cell? ⟨g,1,none⟩=some (bs bt (O:Nat)):=by have h:=D.o.b.cell 1;rw[Q.o] at h;exact h
  go_upto_region 13 with (first | (go_at_call 284;(with_reducible refine (zL.o _).mono ?_);rintro e Y ⟨rfl,rfl⟩) | (go_at_call 55;(with_reducible refine (qO.o _).mono ?_);rintro e Y ⟨rfl,rfl⟩) | (go_at_call 56;(with_reducible refine (I9.o _).mono ?_);rintro e Y ⟨rfl,rfl⟩));go_quiet (fail);obtain⟨W1,m⟩:=aC (W.drewN nq);have d:IY W W1:=by rw[m];exact (Below.refl _ _).drewN nq
  have U:=qh (D.o.below d);have Du:=qh (q.trans (Kp.of d));have BA:=qh (X.o.below d X.o.lt);have V:W.heap.size<=W1.heap.size:=d.size;rw[<- m];clear m d d1 d2 d3;have d0:W1.cell? ⟨g,0,none⟩=some (bv s):=U.o.b.cell 0;have Ew:=qh (next_any g s i W1 U.o);rw[aa.o] at Ew;go_wp2_with (go_at_call 254;(with_reducible refine Ew.o.mono ?_);rintro e a ⟨rfl,vZ,p⟩;have I7:=qh vZ;have Em:=qh (Du.o.trans p);have b:=BA.o.kp p (by omega);have dO:a.cell? ⟨w.heap.size,0,none⟩=some (bs bt 0):=b.cell 0;have kD:a.frozen? ⟨w.heap.size,0,none⟩=false:=b.frozen 0;have eH:a.cell? ⟨w.heap.size,1,none⟩=some (bs bt 0):=b.cell 1;have kE:a.frozen? ⟨w.heap.size,1,none⟩=false:=b.frozen 1;have ik:a.cell? ⟨w.heap.size,2,none⟩=some (bv ⟨#[]⟩):=b.cell 2;have oV:a.frozen? ⟨w.heap.size,2,none⟩=false:=b.frozen 2;have iq:a.cell? ⟨w.heap.size,3,none⟩=some (bs bt 0):=b.cell 3;have oW:a.frozen? ⟨w.heap.size,3,none⟩=false:=b.frozen 3;have jK:a.cell? ⟨w.heap.size,4,none⟩=some (bs bt 0):=b.cell 4;have yQ:a.frozen? ⟨w.heap.size,4,none⟩=false:=b.frozen 4;have jL:a.cell? ⟨w.heap.size,5,none⟩=some (bv ⟨#[]⟩):=b.cell 5;have yR:a.frozen? ⟨w.heap.size,5,none⟩=false:=b.frozen 5;have jM:a.cell? ⟨w.heap.size,6,none⟩=some (bw none 0 0):=b.cell 6;have yS:a.frozen? ⟨w.heap.size,6,none⟩=false:=b.frozen 6;have jO:a.cell? ⟨w.heap.size,7,none⟩=some (bw none 0 0):=b.cell 7;have yT:a.frozen? ⟨w.heap.size,7,none⟩=false:=b.frozen 7);refine bodyPost_ret (v:=.agg #[bs bt 2,bs bt 0,bv v,bs bt 0,bs bt 0,bv ⟨#[]⟩,bw none 0 0,bw none 0 0]) (by simp[results,Tryz.results319,go_sem,dO,eH,ik,iq,jK,jL,jM,jO]) rfl ?_;have y:=HV.o;subst y;rw[JZ.o,PK.o];exact sZ (L:=W.heap.size) (x:=iO 2 0 t.tx []) (A:=none) (c:=0) (A':=none) (c':=0) (tH (B:=W.heap.size) (css:=[]) 2 0 t.tx (by have:=PI.o;unfold maxLen;omega) ⟨rfl,λ j h=>absurd h (by simp)⟩ (λ k hk=>hk) ⟨rfl,.inl ⟨rfl,rfl⟩⟩ (bQ _)) F ab I7.o Em.o
theorem Me (g:Nat) (s:ByteArray) (i:Nat) (w:World) (E:aT w g s i) (hm:TM w g) (t:Tok) (r:List Tok) (hL:wordsOf s.data.toList i=t :: r) (ht:t.touch=false) (S:lF t.tx=false) (yG:t.tx≠[40]) (N:nameB t.tx=true) (hd:pR t r=true) (ho:gX t.tx=0) (hq:lG t.tx=0) (hx:t.tx≠zt) :
  Calls Tryz.prog 319 #[bx (some ⟨g,0,none⟩)] w λ e w'=>wG w g s (Pz s.data.toList.length .cO [] (t :: r)) e w':=by
 have nV:=qh E;have HM:=qh hm;have ae:=E.b.lt;have a0:=E.s;have b:=iH hL;obtain⟨V,et,eh⟩:=jV b.1;obtain⟨c0,tl,v,aL,an,H,Z,u,l,ay,zL,qO,I9,G,K,F,ji⟩:=kR b.1;have Be:=gq b.1;rw[aY] at Be;have PK:=qh (show r=wordsOf s.data.toList (aS s i+(aO s i).length) by rw[V,et];exact b.2);have Rh:=qh (show t.at_=aS s i from V.symm);have sQ:=qh b.1;have OD:=qh hL;have HV:=qh u;have D9:=qh (show tb (aO s i)=v by rw[et];exact u);have jP:=qh eh;have ar:=qh (λ W (E:aT W g s i)=>iD g s i W E);have PN:c0≠40:=λ e=>yG (yx b.1 (w:=tl) (by rw[H,e]));rw[ht] at jP;have JZ:=qh (V4 (n:=s.data.toList.length) (r:=r) ht S yG N hd ho hq hx);obtain⟨R,hR⟩:=af (Pz s.data.toList.length .cO [] (t :: r));rw[hR] at JZ ⊢;rw[G] at S;simp only[bE,decide_eq_false_iff_not] at S;obtain⟨⟨⟨⟨⟨⟨h0,am⟩,ab⟩,qI⟩,iG⟩,ak⟩,ac⟩:=S;rw[h0] at zL;obtain⟨a3,a1⟩:=fA (z:=64) (n:=64) l am rfl rfl;obtain⟨aw,a4⟩:=fA (z:=35) (n:=35) l ab rfl rfl;obtain⟨a2,ax⟩:=fA (z:=39) (n:=39) l qI rfl rfl;obtain⟨RS,RU⟩:=fA (z:=123) (n:=123) l iG rfl rfl;have st:(v.toList == [116,114,117,101])=false:=by have h:=ji [116,114,117,101] ak;simpa [tb] using h
 have sf:(v.toList == [102,97,108,115,101])=false:=by have h:=ji [102,97,108,115,101] ac;simpa [tb] using h
 obtain⟨aE,aM⟩:=fA (z:=40) (n:=40) l PN rfl rfl;rw[K,bN] at N;rw[N.1] at qO;have hr:bH.contains t.tx=false:=by simpa using N.2
 rw[hr] at I9;obtain⟨M,C⟩:=af (t.at_);obtain⟨J,hJ⟩:=af (M+v.size);have T:J=t.at_+t.tx.length:=by rw[<- hJ,<- C,<- u,kY]
 have a:=zI (s:=s.data.toList) (t:=t) T;have P:r=wordsOf s.data.toList J:=by rw[T];exact b.2
 rw[<- P,hd,aY] at a;have aR:J<=s.size:=by rw[T];omega
 have X:=qh (show aS s i=M by rw[V,C]);have aa:((M:Nat):Int)+(v.size:Nat)=(J:Nat):=by omega
 have aD:IntKind.i64.wrap (((M:Nat):Int)+(v.size:Nat))=(J:Nat):=by rw[aa];exact bL _ (by omega)
 obtain⟨i1,p⟩:=af (aS s i+(aO s i).length);have ad:=qh p;rw[p] at PK;have Dv:t.tx.length<=4000:=by omega
 have PI:=qh Dv;have I:J<s.size:=by
  have h1:decide (J<s.size)=true:=by
   cases h:decide (J<s.size) with
   | true=>rfl
   | false=>rw[h] at a;cases a
  exact of_decide_eq_true h1
 have al:(s[J]'I).toNat=40:=by
  rw[decide_eq_true I,bO,lS I] at a;have h2:=of_decide_eq_true a.symm;rw[h2];rfl
 have av:(((s[J]'I).toNat:Int) == 40)=true:=by simp;omega
 have aW:((s[J]'I).toNat == 40)=true:=by simp;omega
 have aq:((J:Nat):Int)<((s.size:Nat):Int):=by omega
 clear al;have MW:=qh (λ W=>u▸VV g W t.tx ho hq hx);clear hr N l a P C p hR T Dv G K F ji b V et eh H Z an Be u hL E hm;go_enter Tryz.func319,Tryz.ntmps319;go_upto_region 1 with (fail);obtain⟨W,hW,Q,BR,ap,Y,-⟩:=fB g w;have U:=qh (show aT W g s i by rw[hW];exact nV.o.alloc _);have vM:=qh (HM.o.kp Q);have mJ:=qh BR;rw[<- hW];clear hW BR;have d2:W.cell? ⟨g,2,none⟩=some (bv v):=by have h:=U.o.b.cell 2;rw[show tb (aO s i)=v from D9.o] at h;exact h
 have d3:W.cell? ⟨g,3,none⟩=some (bA false):=by have h:=U.o.b.cell 3;rw[jP.o] at h;exact h
 have d1:W.cell? ⟨g,1,none⟩=some (bs bt (M:Nat)):=by have h:=U.o.b.cell 1;rw[X.o] at h;exact h
 go_upto_region 13 with (first | (go_at_call 284;(with_reducible refine (zL.o _).mono ?_);rintro e w1 ⟨rfl,rfl⟩) | (go_at_call 55;(with_reducible refine (qO.o _).mono ?_);rintro e w1 ⟨rfl,rfl⟩) | (go_at_call 56;(with_reducible refine (I9.o _).mono ?_);rintro e w1 ⟨rfl,rfl⟩));go_quiet (fail);obtain⟨W1,q⟩:=aC (W.drewN nq);have m:IY W W1:=by rw[q];exact (Below.refl _ _).drewN nq
 have zK:=qh (U.o.below m);have Du:=qh (Q.trans (Kp.of m));have BA:=qh (mJ.o.below m mJ.o.lt);have ao:W.heap.size<=W1.heap.size:=m.size;rw[<- q];clear q m d1 d2 d3;have d0:W1.cell? ⟨g,0,none⟩=some (bv s):=zK.o.b.cell 0;go_wp2_with fail;refine (MW.o W1).mono ?_;rintro e w2 ⟨rfl,D⟩;go_upto_region 16 with (fail);obtain⟨W3,y⟩:=aC (w2.alloc (.cells #[bs bt 0,bs bt 0,bv ⟨#[]⟩,bs bt 0,bs bt 0,bv ⟨#[]⟩,bw none 0 0,bw none 0 0] 67 (0,0)));have o:IY W1 W3:=by rw[y];exact D.alloc D.size _
 have Ho:=qh (zK.o.below o);have qU:=qh (Du.o.trans (Kp.of o));have zM:=qh (BA.o.below o BA.o.lt);rw[<- y];clear y D o;have Ew:=qh (next_any g s i W3 Ho.o);rw[ad.o] at Ew;go_wp2_with (go_at_call 254;(with_reducible refine Ew.o.mono ?_);rintro e d ⟨rfl,vZ,O⟩;have I7:=qh vZ;have Em:=qh (qU.o.trans O);have f:=zM.o.kp O (by omega);have dO:d.cell? ⟨w.heap.size,0,none⟩=some (bs bt 0):=f.cell 0;have kD:d.frozen? ⟨w.heap.size,0,none⟩=false:=f.frozen 0;have eH:d.cell? ⟨w.heap.size,1,none⟩=some (bs bt 0):=f.cell 1;have kE:d.frozen? ⟨w.heap.size,1,none⟩=false:=f.frozen 1;have ik:d.cell? ⟨w.heap.size,2,none⟩=some (bv ⟨#[]⟩):=f.cell 2;have oV:d.frozen? ⟨w.heap.size,2,none⟩=false:=f.frozen 2;have iq:d.cell? ⟨w.heap.size,3,none⟩=some (bs bt 0):=f.cell 3;have oW:d.frozen? ⟨w.heap.size,3,none⟩=false:=f.frozen 3;have jK:d.cell? ⟨w.heap.size,4,none⟩=some (bs bt 0):=f.cell 4;have yQ:d.frozen? ⟨w.heap.size,4,none⟩=false:=f.frozen 4;have jL:d.cell? ⟨w.heap.size,5,none⟩=some (bv ⟨#[]⟩):=f.cell 5;have yR:d.frozen? ⟨w.heap.size,5,none⟩=false:=f.frozen 5;have jM:d.cell? ⟨w.heap.size,6,none⟩=some (bw none 0 0):=f.cell 6;have yS:d.frozen? ⟨w.heap.size,6,none⟩=false:=f.frozen 6;have jO:d.cell? ⟨w.heap.size,7,none⟩=some (bw none 0 0):=f.cell 7;have yT:d.frozen? ⟨w.heap.size,7,none⟩=false:=f.frozen 7);refine bodyPost_ret (v:=.agg #[bs bt 2,bs bt 0,bv v,bs bt 0,bs bt 0,bv ⟨#[]⟩,bw none 0 0,bw none 0 0]) (by simp[results,Tryz.results319,go_sem,dO,eH,ik,iq,jK,jL,jM,jO]) rfl ?_;have u:=HV.o;subst u;rw[JZ.o,PK.o];exact sZ (L:=W.heap.size) (x:=iO 2 0 t.tx []) (A:=none) (c:=0) (A':=none) (c':=0) (tH (B:=W.heap.size) (css:=[]) 2 0 t.tx (by have:=PI.o;unfold maxLen;omega) ⟨rfl,λ j h=>absurd h (by simp)⟩ (λ k hk=>hk) ⟨rfl,.inl ⟨rfl,rfl⟩⟩ (bQ _)) Y ae I7.o Em.o
theorem MB (g:Nat) (s:ByteArray) (i:Nat) (w:World) (C:aT w g s i) (hm:TM w g) (t:Tok) (r:List Tok) (hL:wordsOf s.data.toList i=t :: r) (ht:t.touch=false) (hc:lF t.tx=false) (yG:t.tx≠[40]) (X:nameB t.tx=true) (H:pR t r=true) (hy:¬ (gX t.tx=0/\lG t.tx=0/\t.tx≠zt)) (hP:∀ L',L'.length<r.length->fH 255 .or s L') :
  Calls Tryz.prog 319 #[bx (some ⟨g,0,none⟩)] w λ e w'=>wG w g s (Pz s.data.toList.length .cO [] (t :: r)) e w':=by
 have nV:=qh C;have HM:=qh hm;have aL:=C.b.lt;have bn:=C.s;have c:=iH hL;obtain⟨ea,et,eh⟩:=jV c.1;obtain⟨c0,tl,v,bj,a4,O,al,U,f,be,zL,qO,I9,M,Q,I,ji⟩:=kR c.1;have Be:=gq c.1;rw[aY] at Be;have PK:=qh (show r=wordsOf s.data.toList (aS s i+(aO s i).length) by rw[ea,et];exact c.2);have Rh:=qh (show t.at_=aS s i from ea.symm);have sQ:=qh c.1;have OD:=qh hL;have HV:=qh U;have D9:=qh (show tb (aO s i)=v by rw[et];exact U);have jP:=qh eh;have ba:=qh (λ W (C:aT W g s i)=>iD g s i W C);have PN:c0≠40:=λ e=>yG (yx c.1 (w:=tl) (by rw[O,e]));rw[ht] at jP;have JZ:=qh (V5 (n:=s.data.toList.length) (r:=r) ht hc yG X H hy);obtain⟨R,hR⟩:=af (Pz s.data.toList.length .cO [] (t :: r));rw[hR] at JZ ⊢;rw[M] at hc;simp only[bE,decide_eq_false_iff_not] at hc;obtain⟨⟨⟨⟨⟨⟨h0,a3⟩,an⟩,qI⟩,iG⟩,aM⟩,aD⟩:=hc;rw[h0] at zL;obtain⟨bq,bo⟩:=fA (z:=64) (n:=64) f a3 rfl rfl;obtain⟨bc,br⟩:=fA (z:=35) (n:=35) f an rfl rfl;obtain⟨bp,bd⟩:=fA (z:=39) (n:=39) f qI rfl rfl;obtain⟨RS,RU⟩:=fA (z:=123) (n:=123) f iG rfl rfl;have st:(v.toList == [116,114,117,101])=false:=by have h:=ji [116,114,117,101] aM;simpa [tb] using h
 have sf:(v.toList == [102,97,108,115,101])=false:=by have h:=ji [102,97,108,115,101] aD;simpa [tb] using h
 obtain⟨bg,bk⟩:=fA (z:=40) (n:=40) f PN rfl rfl;rw[Q,bN] at X;rw[X.1] at qO;have hr:bH.contains t.tx=false:=by simpa using X.2
 rw[hr] at I9;obtain⟨T,x⟩:=af (t.at_);obtain⟨J,hJ⟩:=af (T+v.size);have RX:J=t.at_+t.tx.length:=by rw[<- hJ,<- x,<- U,kY]
 have a:=zI (s:=s.data.toList) (t:=t) RX;have Y:r=wordsOf s.data.toList J:=by rw[RX];exact c.2
 rw[<- Y,H,aY] at a;have bl:J<=s.size:=by rw[RX];omega
 have ac:=qh (show aS s i=T by rw[ea,x]);have am:((T:Nat):Int)+(v.size:Nat)=(J:Nat):=by omega
 have bf:IntKind.i64.wrap (((T:Nat):Int)+(v.size:Nat))=(J:Nat):=by rw[am];exact bL _ (by omega)
 obtain⟨i1,o⟩:=af (aS s i+(aO s i).length);have bh:=qh o;rw[o] at PK;have Dv:t.tx.length<=4000:=by omega
 have PI:=qh Dv;have P:J<s.size:=by
  have h1:decide (J<s.size)=true:=by
   cases h:decide (J<s.size) with
   | true=>rfl
   | false=>rw[h] at a;cases a
  exact of_decide_eq_true h1
 have a2:(s[J]'P).toNat=40:=by
  rw[decide_eq_true P,bO,lS P] at a;have h2:=of_decide_eq_true a.symm;rw[h2];rfl
 have bb:(((s[J]'P).toNat:Int) == 40)=true:=by simp;omega
 have bm:((s[J]'P).toNat == 40)=true:=by simp;omega
 have a8:((J:Nat):Int)<((s.size:Nat):Int):=by omega
 clear a2;obtain⟨u,A,m,K⟩:∃ u A,r=u :: A/\u.tx = [40]:=by
  cases hr':r with
  | nil=>rw[hr'] at H;cases H
  | cons u A =>
   rw[hr'] at H;have h1:(decide (u.tx = [40]) && decide (u.at_=t.at_+t.tx.length))=true:=H;rw[bN,decide_eq_true_iff] at h1;exact⟨u,A,rfl,h1.1⟩
 have av:=qh (λ W (ax:aT W g s i) (ao:TM W g)=>U▸ZL g s i W ax ao t u A (by rw[hL,m]) K hy (λ L' h=>hP L' (by rw[m];simp;omega)));have ay:=qh (show r.tail=A by rw[m];rfl);clear K hy hP m;clear hr X f a Y x o hR RX Dv M Q I ji c ea et eh O al a4 Be U hL C hm;go_enter Tryz.func319,Tryz.ntmps319;go_upto_region 1 with (fail);obtain⟨W,hW,aa,BR,a6,ak,-⟩:=fB g w;have iY:=qh (show aT W g s i by rw[hW];exact nV.o.alloc _);have vM:=qh (HM.o.kp aa);have mJ:=qh BR;rw[<- hW];clear hW BR;have d2:W.cell? ⟨g,2,none⟩=some (bv v):=by have h:=iY.o.b.cell 2;rw[show tb (aO s i)=v from D9.o] at h;exact h
 have d3:W.cell? ⟨g,3,none⟩=some (bA false):=by have h:=iY.o.b.cell 3;rw[jP.o] at h;exact h
 have d1:W.cell? ⟨g,1,none⟩=some (bs bt (T:Nat)):=by have h:=iY.o.b.cell 1;rw[ac.o] at h;exact h
 go_upto_region 13 with (first | (go_at_call 284;(with_reducible refine (zL.o _).mono ?_);rintro e w1 ⟨rfl,rfl⟩) | (go_at_call 55;(with_reducible refine (qO.o _).mono ?_);rintro e w1 ⟨rfl,rfl⟩) | (go_at_call 56;(with_reducible refine (I9.o _).mono ?_);rintro e w1 ⟨rfl,rfl⟩));go_quiet (fail);obtain⟨W1,p⟩:=aC (W.drewN nq);have l:IY W W1:=by rw[p];exact (Below.refl _ _).drewN nq
 have zK:=qh (iY.o.below l);have Du:=qh (aa.trans (Kp.of l));have BA:=qh (mJ.o.below l mJ.o.lt);have a5:W.heap.size<=W1.heap.size:=l.size;rw[<- p];clear p l d1 d2 d3;have d0:W1.cell? ⟨g,0,none⟩=some (bv s):=zK.o.b.cell 0;go_wp2_with fail;have ae:=HM.o.kp Du.o;rw[ay.o] at JZ;obtain⟨r2,Z⟩:=af (tC s.data.toList.length t.tx A);have HC:=av.o W1 zK.o ae;rw[Z] at HC JZ;refine HC.mono ?_;clear HC Z;cases r2 with
 | err k =>
  rintro e L ⟨rfl,j⟩;have ab:R = .err k:=JZ.o;go_wp2_with fail;refine⟨rfl,?_⟩;rw[ab];exact⟨rfl,Du.o.trans j⟩
 | ok es l1 =>
  rintro e L ⟨y,i2,a9,rfl,rfl,rfl,S,V,j⟩;have UZ:=qh S;obtain⟨a1,ar,aq,ad,a0,aE,N⟩:=S;rename_i G B D E bi;clear a0 aE N a1 ar aq ad;have ZM:(ai y G B D E).toArray = (BC y G B D y.ar.length E):=rfl;rw[ZM];clear ZM;have a7:W1.heap.size<=L.heap.size:=j.size;have aR:=qh V;have jA:=qh (Du.o.trans j);have rU:=qh (BA.o.kp j (by omega));clear V j;go_upto_region 16 with (fail);obtain⟨F,d⟩:=aC (L.alloc (.cells (BC y G B D y.ar.length E) 67 (0,0)));have Ho:=qh (show aT F g s i2 by rw[d];exact aR.o.alloc _);have qU:=qh (show Kp g w F by rw[d];exact jA.o.alloc _);have aW:ZB F w.heap.size:=by rw[d];exact rU.o.alloc _
  have aw:ah F L.heap.size 67 (BC y G B D y.ar.length E):=by rw[d];exact ah.new L _ _
  have ap:=qh (show dD F (λ b=>W.heap.size<=b) F.heap.size y (ai y G B D E) by
   rw[d];exact ((UZ.o.imp (q:=λ b=>W.heap.size<=b) (λ k hk _=>by omega)).keep (dN.of ((Below.refl _ _).alloc (bD _) _))).up (by simp))
  rw[<- d];clear d;obtain⟨gG,fZ,fV,gI,gJ,gK,gQ,fM⟩:=ah.c8 aw;obtain⟨dO,kD,eH,kE,ik,oV,iq,oW,jK,yQ,jL,yR,jM,yS,jO,yT⟩:=ah.z8 aW;go_wp2_with fail;refine bodyPost_ret (v:=.agg (BC y G B D y.ar.length E)) (by simp[results,Tryz.results319,go_sem,dO,eH,ik,iq,jK,jL,jM,jO]) rfl ?_;rw[JZ.o];exact sZ ap.o ak aL Ho.o qU.o
theorem MC (s:ByteArray) (L:List Tok) (j:∀ f,f.length<L.length->fH 255 .or s f):fH 319 .cO s L:=by
 intro g i w b d c;cases L with
 | nil=>exact PM g s i w b c
 | cons t r =>
  by_cases a:t.touch=true
  .exact Jc g s i w b d t r c a
  have a:=bK.2 a;by_cases e:lF t.tx=true
  .exact Jd g s i w b d t r c a e
  have e:=bK.2 e;by_cases PN:t.tx = [40]
  .exact Je g s i w b d t r c a PN (λ f h=>j f (by simp;omega))
  by_cases hn:nameB t.tx=true
  .by_cases hd:pR t r=true
   .by_cases hy:gX t.tx=0/\lG t.tx=0/\t.tx≠zt
    .exact Me g s i w b d t r c a e PN hn hd hy.1 hy.2.1 hy.2.2
    .exact MB g s i w b d t r c a e PN hn hd hy (λ f h=>j f (by simp;omega))
   .exact Jf g s i w b d t r c a e PN hn (bK.2 hd)
  .exact PO g s i w b d t r c a e PN (bK.2 hn)
structure alP (s:ByteArray) (m:Nat):Prop where
 or:∀ L,kP .or L<=m->fH 255 .or s L
 and:∀ L,kP .and L<=m->fH 271 .and s L
 not:∀ L,kP .not L<=m->fH 291 .not s L
 sum:∀ L,kP .sum L<=m->fH 304 .sum s L
 product:∀ L,kP .product L<=m->fH 314 .product s L
 minus:∀ L,kP .minus L<=m->fH 317 .minus s L
 cO:∀ L,kP .cO L<=m->fH 319 .cO s L
theorem TZ (s:ByteArray):∀ m,alP s m
 | 0=>⟨λ L h=>by simp[kP,iC] at h,λ L h=>by simp[kP,iC] at h,λ L h=>by simp[kP,iC] at h,λ L h=>by simp[kP,iC] at h,λ L h=>by simp[kP,iC] at h,λ L h=>by simp[kP,iC] at h,λ L h=>by simp[kP,iC] at h⟩
 | m+1=>by
  have b:=TZ s m;refine⟨λ L h=>?_,λ L h=>?_,λ L h=>?_,λ L h=>?_,λ L h=>?_,λ L h=>?_,λ L h=>?_⟩ <;> simp only[kP,iC] at h
  .exact acz s L (λ a c=>b.and a (by simp only[kP,iC];omega))
  .exact Zn s L (λ a c=>b.not a (by simp only[kP,iC];omega))
  .exact Zq s L (λ a c=>b.not a (by simp only[kP,iC];omega)) (λ a c=>b.sum a (by simp only[kP,iC];omega))
  .exact Zp s L (λ a c=>b.product a (by simp only[kP,iC];omega))
  .exact L8 s L (λ a c=>b.minus a (by simp only[kP,iC];omega))
  .exact RH s L (λ a c=>b.minus a (by simp only[kP,iC];omega)) (b.cO L (by simp only[kP,iC];omega))
  .exact MC s L (λ a c=>b.or a (by simp only[kP,iC];omega))
theorem afE (s:ByteArray) (L:List Tok):fH 255 .or s L:=(TZ s (kP .or L)).or L (bD _)
structure St (w0:World) (b0 b1 b2:Nat) (a0:Array Value) (x1 x2:Value) (w:World):Prop where
 c0:ah w b0 67 a0
 c1:ah w b1 3 #[x1]
 c2:ah w b2 28 #[x2]
 os:w.os=w0.os
 tape:w.tape=w0.tape
 output:w.output=w0.output
 size:w0.heap.size<=w.heap.size
 far:∀ k,k<w0.heap.size->k≠b0->k≠b1->k≠b2->w.heap[k]?=w0.heap[k]?
theorem St.set0 {r w:World} {a b1 b2:Nat} {u0 u1 u2 u3 u4 u5 u6 u7 s t:Value} (h:St r a b1 b2 #[u0,u1,u2,u3,u4,u5,u6,u7] s t w) (y:a≠b1) (x:a≠b2) (f d l m g j o n:Value):St r a b1 b2 #[f,d,l,m,g,j,o,n] s t (kZ w a f d l m g j o n):=by
 have b:∀ k,k≠a->(kZ w a f d l m g j o n).heap[k]?=w.heap[k]?:=λ k C=>fJ _ _ _ _ _ _ _ _ _ _ k C;have u:∀ (w':World) (i:Nat) (v:Value),(w'.setCell ⟨a,i,none⟩ v).os=w'.os:=λ _ _ _=>rfl;have B:∀ (w':World) (i:Nat) (v:Value),(w'.setCell ⟨a,i,none⟩ v).tape=w'.tape:=λ _ _ _=>rfl;have z:∀ (w':World) (i:Nat) (v:Value),(w'.setCell ⟨a,i,none⟩ v).output=w'.output:=λ _ _ _=>rfl;exact⟨Bo h.c0 f d l m g j o n,by (try unfold ZB);unfold ah;rw[b _ (λ e=>y e.symm)];exact h.c1,by (try unfold ZB);unfold ah;rw[b _ (λ e=>x e.symm)];exact h.c2,by simp only[kZ,u];exact h.os,by simp only[kZ,B];exact h.tape,by simp only[kZ,z];exact h.output,by rw[jU];exact h.size,λ k A c p q=>by rw[b k c];exact h.far k A c p q⟩
theorem St.set1 {g w:World} {f b1 b2:Nat} {j:Array Value} {m i:Value} (h:St g f b1 b2 j m i w) (n:f≠b1) (l:b1≠b2) (v:Value):St g f b1 b2 j v i (w.setCell ⟨b1,0,none⟩ v):=by
 have a:∀ k,k≠b1->(w.setCell ⟨b1,0,none⟩ v).heap[k]?=w.heap[k]?:=λ k p=>Below.heap_setCell w ⟨b1,0,none⟩ v k p;exact⟨by (try unfold ZB);unfold ah;rw[a _ n];exact h.c0,by simpa using h.c1.eG 0 v,by (try unfold ZB);unfold ah;rw[a _ (λ e=>l e.symm)];exact h.c2,h.os,h.tape,h.output,by simp[World.setCell];exact h.size,λ k o c b d=>by rw[a k b];exact h.far k o c b d⟩
theorem St.set2 {f w:World} {e b1 b2:Nat} {i:Array Value} {g m:Value} (h:St f e b1 b2 i g m w) (l:e≠b2) (j:b1≠b2) (v:Value):St f e b1 b2 i g v (w.setCell ⟨b2,0,none⟩ v):=by
 have a:∀ k,k≠b2->(w.setCell ⟨b2,0,none⟩ v).heap[k]?=w.heap[k]?:=λ k o=>Below.heap_setCell w ⟨b2,0,none⟩ v k o;exact⟨by (try unfold ZB);unfold ah;rw[a _ l];exact h.c0,by (try unfold ZB);unfold ah;rw[a _ j];exact h.c1,by simpa using h.c2.eG 0 v,h.os,h.tape,h.output,by simp[World.setCell];exact h.size,λ k n c d b=>by rw[a k b];exact h.far k n c d b⟩
theorem St.below {f w w':World} {i b1 b2:Nat} {l:Array Value} {j e:Value} (h:St f i b1 b2 l j e w) (a:IY w w'):St f i b1 b2 l j e w':=
 ⟨h.c0.below a h.c0.lt,h.c1.below a h.c1.lt,h.c2.below a h.c2.lt,a.os.trans h.os,a.tape.trans h.tape,a.output.trans h.output,Nat.le_trans h.size a.size,λ k g c d b=>(a.block k (Nat.lt_of_lt_of_le g h.size)).trans (h.far k g c d b)⟩
theorem St.toBelow {a w:World} {b b1 b2 B:Nat} {e:Array Value} {d c:Value} (h:St a b b1 b2 e d c w) (j:B<=a.heap.size) (l:B<=b) (f:B<=b1) (g:B<=b2):Below B a w:=
 ⟨h.os,h.tape,h.output,h.size,λ k i=>h.far k (by omega) (by omega) (by omega) (by omega)⟩
theorem J3 (w:World) (b0 b1 b2 k:Nat) (d:b0≠b1) (c:b0≠b2) (f:b1≠b2) (u0 u1 u2 u3 u4 u5 u6 u7 x1 x2:Value) (a:List PanicEntry) (h:St w b0 b1 b2 #[u0,u1,u2,u3,u4,u5,u6,u7] x1 x2 w) :
  CallsD Tryz.prog 253 #[bx (some ⟨b0,0,none⟩),bx (some ⟨b1,0,none⟩),bx (some ⟨b2,0,none⟩)] (.panicking ({ v:=.iface 342 (.agg #[bs bt (k:Nat)]),recovered:=false } :: a)) w λ e l w' =>
   e = bB (.tuple #[])/\l = .panicking ({ v:=.iface 342 (.agg #[bs bt (k:Nat)]),recovered:=true } :: a)/\St w b0 b1 b2 #[bs bt 0,bs bt 0,bv ⟨#[]⟩,bs bt 0,bs bt 0,bv ⟨#[]⟩,bw none 0 0,bw none 0 0] (bs bt (k:Nat)) (bs bt 10) w':=by
 have o:∀ (v:Value) (W:World),(Instr.typeAssert (.iface 342 v) 20 342 true).run Tryz.prog W = .ok (.tuple #[v,bA true]) W:=λ _ _=>by kernel_rfl
 have g:=qh h;clear h;refine callsD_of_wpS Tryz.func253 rfl λ P cs t=>?_;apply wpS_seq;apply wpS_region;simp[wpOpsS,go_sem,recoverD,t,Tryz.ntmps253,Exit.thenS];refine wpS_of_wp ?_;simp only[show (Array.replicate 17 undef:Array Value) = #[undef,undef,undef,undef,undef,undef,undef,undef,undef,undef,undef,undef,undef,undef,undef,undef,undef] from rfl,List.setIfInBounds_toArray,List.set_cons_zero,List.set_cons_succ,List.append_toArray,List.cons_append,List.nil_append];have B0:=g.o.c0;have B1:=g.o.c1;have B2:=g.o.c2;have n:w.heap.size≠b0:=by have:=B0.lt;omega
 have u:w.heap.size≠b1:=by have:=B1.lt;omega
 have m:w.heap.size≠b2:=by have:=B2.lt;omega
 go_upto_region 5 with (fail);obtain⟨W,i⟩:=aC (w.alloc (.cells #[bs bt (k:Nat)] 342 (0,0)));have b:=qh (show St w b0 b1 b2 #[u0,u1,u2,u3,u4,u5,u6,u7] x1 x2 W by rw[i];exact g.o.below ((Below.refl _ _).alloc (bD _) _));have r:ah W w.heap.size 342 #[bs bt (k:Nat)]:=by rw[i];exact ah.new w _ _
 have y:W.cell? ⟨w.heap.size,0,none⟩=some (bs bt (k:Nat)):=r.cell 0;rw[<- i];clear i B0 B1 B2;have B0:=b.o.c0;have B1:=b.o.c1;have B2:=b.o.c2;obtain⟨G,z,K,C,A,F,O,H,B,I,N,J,M,L,E,D⟩:=ah.z8 B0;have q:W.cell? ⟨b1,0,none⟩=some x1:=B1.cell 0;have p:W.frozen? ⟨b1,0,none⟩=false:=B1.frozen 0;have x:W.cell? ⟨b2,0,none⟩=some x2:=B2.cell 0;have s:W.frozen? ⟨b2,0,none⟩=false:=B2.frozen 0;go_region;have j:=qh ((((b.o.set0 d c (bs bt 0) (bs bt 0) (bv ⟨#[]⟩) (bs bt 0) (bs bt 0) (bv ⟨#[]⟩) (bw none 0 0) (bw none 0 0)).set1 d f (bs bt (k:Nat))).set2 c f (bs bt 10)).below (Below.refl _ _).drew);go_wp2_with fail;exact⟨rfl,_,rfl,.tuple #[],by simp[results,Tryz.results253,go_sem],rfl,rfl,j.o⟩
theorem ZN (b d c:Addr) (w:World) :
  CallsD Tryz.prog 253 #[bx (some b),bx (some d),bx (some c)] .returning w λ e a w'=>e = bB (.tuple #[])/\a = .returning/\w'=w:=by
 refine callsD_of_wpS Tryz.func253 rfl λ g cs f=>?_;apply wpS_seq;apply wpS_region;simp[wpOpsS,go_sem,recoverD,f,Tryz.ntmps253,Exit.thenS];refine wpS_of_wp ?_;simp only[show (Array.replicate 17 undef:Array Value) = #[undef,undef,undef,undef,undef,undef,undef,undef,undef,undef,undef,undef,undef,undef,undef,undef,undef] from rfl,List.setIfInBounds_toArray,List.set_cons_zero,List.set_cons_succ,List.append_toArray,List.cons_append,List.nil_append];go_wp2_with fail;cases g;simp_all[bodyPostS,results,Tryz.results253]
end Go.Proofs.YtcnagconagpkcaaGreatDoor
namespace Go.Proofs.YtcnagconagpkcaaGreatDoor
open Go.RowKit Vtx
theorem ZO (g:Nat) (s:ByteArray) (A:Nat) (u:ByteArray) (d0:Bool) (w:World) (hb:ah w g 346 #[bv s,bs bt (A:Nat),bv u,bA d0]) (b:A+u.size<=s.size) (hs:s.size<=4000) :
  Calls Tryz.prog 254 #[bx (some ⟨g,0,none⟩)] w λ e w'=>e = bB (.tuple #[])/\aT w' g s (A+u.size)/\Kp g w w':=by
 have P:=qh hb;obtain⟨E,hE⟩:=af (A+u.size);rw[hE] at b ⊢;have p:E<=E/\E<=s.size:=⟨bD _,b⟩;obtain⟨J,hJ⟩:=aC (E+bZ bM (s.data.toList.drop E));have ap:J<=s.size:=by
  have h1:=qZ bM (s.data.toList.drop E);rw[List.length_drop,aY] at h1;omega
 obtain⟨T,hT⟩:=af (gy s E);have HJ:=qh hJ;have Q:=qh hT;have i:w.cell? ⟨g,0,none⟩=some (bv s):=P.o.cell 0;have O:w.cell? ⟨g,1,none⟩=some (bs bt (A:Nat)):=P.o.cell 1;have G:w.cell? ⟨g,2,none⟩=some (bv u):=P.o.cell 2;have K:((A:Nat):Int)+(u.size:Nat)=(E:Nat):=by omega
 have aa:IntKind.i64.wrap (((A:Nat):Int)+(u.size:Nat))=(E:Nat):=by rw[K];exact bL _ (by omega)
 clear hJ hT hE hb b;go_enter Tryz.func254,Tryz.ntmps254;go_upto_region 0 with (fail);go_quiet (fail);obtain⟨W,R⟩:=aC (w.drewN nq);have C:=qh (show Kp g w W by rw[R];exact TR (Bj g w) nq);have v:=qh (show ah W g 346 #[bv s,bs bt (A:Nat),bv u,bA d0] by rw[R];exact P.o.drewN nq);rw[<- R];clear i O G R K aa;have i:W.cell? ⟨g,0,none⟩=some (bv s):=v.o.cell 0;have z3:W.frozen? ⟨g,3,none⟩=false:=v.o.frozen 3;have c3:W.cell? ⟨g,3,none⟩=some (bA d0):=v.o.cell 3;go_wp2_with fail
 go_loop [3] (λ x=>∃ n:Nat,E<=n/\n<=s.size/\x = bs bt n/\Hid (J=n+bZ bM (s.data.toList.drop n))) (λ x=>s.size - (intOf x).toNat)
 case atStart=>exact⟨E,bD _,p.2,rfl,HJ⟩
 case round =>
  obtain⟨n,ak,hn,rfl,Y⟩:=hrel;by_cases hlt:n<s.size
  .have aW:=qh hlt;by_cases h32:s[n].toNat=32
   .have HG:=qh (mQ hlt (show bM s[n]=true from decide_eq_true ((toNat_eq s[n] 32 (by decide)).2 h32)) Y.o);have b1:((s[n].toNat:Int) == 32)=true:=by simp;omega
    clear h32;go_wp2_with fail
    go_round
    case rel=>exact⟨n+1,by omega,aW.o,by go_num,HG⟩
    case measure =>
     have:=aW.o;simp[intOf];omega
   .have B:=oG hlt (show bM s[n]=false from decide_eq_false (λ e=>h32 ((toNat_eq s[n] 32 (by decide)).1 e))) Y.o;have b1:((s[n].toNat:Int) == 32)=false:=by simp;omega
    obtain⟨f,L,y⟩:=O6 HJ.o (by rw[B];exact hlt);subst B;have D9:=qh (Q.o.symm.trans y);have F:=qh (And.intro f L);clear h32 f L y;go_upto_region 4 with (fail);go_cut [3] (λ x wc=>x = bs bt (J:Nat)/\wc=W.setCell ⟨g,3,none⟩ (bA T))
    case first =>
     by_cases hJE:J=E
     .subst hJE;have r:(((J:Nat):Int) == ((J:Nat):Int))=true:=by simp
      by_cases b:0<J
      .have U:J - 1<s.size:=by omega
       obtain⟨b1,o⟩:=af (fC s[J - 1]);obtain⟨b2,q⟩:=af (fC (s[J]'hlt));have m:=qh (show T=(b1 && b2) by rw[D9.o,lS U,lS hlt,o,q,decide_eq_true b];simp);have k:=qh (show Calls Tryz.prog 57 #[.int .u8 (s[J - 1].toNat:Nat)] W λ e c=>e = bB (bA b1)/\W=c from by
        exact (jo s[J - 1] W).mono λ e c ⟨he,hw⟩=>⟨he.trans (congrArg (λ x=>bR (bA x)) o),hw⟩)
       have z:=qh (show Calls Tryz.prog 57 #[.int .u8 ((s[J]'hlt).toNat:Nat)] W λ e c=>e = bB (bA b2)/\W=c from by
        exact (jo (s[J]'hlt) W).mono λ e c ⟨he,hw⟩=>⟨he.trans (congrArg (λ x=>bR (bA x)) q),hw⟩)
       have H:((J:Nat):Int) - 1=((J - 1:Nat):Int):=by omega
       have am:IntKind.i64.wrap (((J:Nat):Int) - 1)=((J - 1:Nat):Int):=by rw[H];exact bL _ (by omega)
       have ab:(0:Int)<((J:Nat):Int):=by omega
       clear o q H;cases b1
       .go_wp2_with (go_at_call 57;(with_reducible refine k.o.mono ?_);rintro e D ⟨rfl,rfl⟩)
        go_meet
        exact⟨rfl,by rw[m.o];rfl⟩
       .cases b2
        .go_wp2_with (first | (go_at_call 57;(with_reducible refine k.o.mono ?_);rintro e D ⟨rfl,rfl⟩) | (go_at_call 57;(with_reducible refine z.o.mono ?_);rintro e D ⟨rfl,rfl⟩))
         go_meet
         exact⟨rfl,by rw[m.o];rfl⟩
        .go_wp2_with (first | (go_at_call 57;(with_reducible refine k.o.mono ?_);rintro e D ⟨rfl,rfl⟩) | (go_at_call 57;(with_reducible refine z.o.mono ?_);rintro e D ⟨rfl,rfl⟩))
         go_meet
         exact⟨rfl,by rw[m.o];rfl⟩
      .have m:=qh (show T=false by rw[D9.o,decide_eq_false b];simp);have ac:¬ (0:Int)<((J:Nat):Int):=by omega
       go_wp2_with fail
       go_meet
       exact⟨rfl,by rw[m.o]⟩
     .have m:=qh (show T=false by rw[D9.o,decide_eq_false hJE];simp);have r:(((J:Nat):Int) == ((E:Nat):Int))=false:=by simp;omega
      have Z:(J == E)=false:=by simp;omega
      go_wp2_with fail
      go_meet
      exact⟨rfl,by rw[m.o]⟩
    case rest =>
    obtain⟨rfl,rfl⟩:=hcut;have t:=acr v.o (bA T);obtain⟨d,j⟩:=aC (W.setCell ⟨g,3,none⟩ (bA T));have nS:=qh (show Kp g w d by rw[j];exact C.o.set 3 _);rw[<- j] at t;have a:=qh t;rw[<- j];clear t j i z3 c3;have i:d.cell? ⟨g,0,none⟩=some (bv s):=a.o.cell 0;have O:d.cell? ⟨g,1,none⟩=some (bs bt (A:Nat)):=a.o.cell 1;have G:d.cell? ⟨g,2,none⟩=some (bv u):=a.o.cell 2;have z1:d.frozen? ⟨g,1,none⟩=false:=a.o.frozen 1;have X:d.frozen? ⟨g,2,none⟩=false:=a.o.frozen 2;have hL:=zq (s.data.toList.drop J);rw[List.length_drop,aY] at hL;obtain⟨N,V⟩:=af (J+dG (s.data.toList.drop J));have HN:=qh V;have ae:(0:Int)<=((J:Nat):Int):=by omega
    have ad:((J:Nat):Int)<=((N:Nat):Int):=by omega
    have aq:((N:Nat):Int)<=((s.size:Nat):Int):=by omega
    have ao:J<=N:=by omega
    have al:N<=s.size:=by omega
    have VK:((J:Nat):Int)<((s.size:Nat):Int):=by omega
    have GK:=qh (λ (w':World) (hc:w'.cell? ⟨g,0,none⟩=some (bv s))=>(show Calls Tryz.prog 269 #[bx (some ⟨g,0,none⟩),bs bt (J:Nat)] w' λ e c=>e = bB (bs bt (N:Nat))/\w'=c from by
     have h:=D8 g s J w' hc hlt hs
     rwa [V] at h))
    clear hL V;go_upto_region 7 with (fail);obtain⟨I,M⟩:=aC ((d.setCell ⟨g,1,none⟩ (bs bt (J:Nat))).setCell ⟨g,2,none⟩ (bv ⟨#[]⟩));have S:=qh (show ah I g 346 #[bv s,bs bt (J:Nat),bv ⟨#[]⟩,bA T] by rw[M];exact VJ (acs a.o _) _);have Em:=qh (show Kp g w I by rw[M];exact (nS.o.set 1 _).set 2 _);rw[<- M];clear M i O G z1 X;have i:I.cell? ⟨g,0,none⟩=some (bv s):=S.o.cell 0;have G:I.cell? ⟨g,2,none⟩=some (bv ⟨#[]⟩):=S.o.cell 2;have X:I.frozen? ⟨g,2,none⟩=false:=S.o.frozen 2;go_region_with (go_at_call 269;(with_reducible refine (GK.o _ (by simpa using i)).mono ?_);rintro e D ⟨rfl,rfl⟩)
    all_goals
     go_wp2_with fail;go_end0;refine⟨rfl,⟨?_,p.2,hs⟩,(Em.o.set 2 _).trans (Kp.of (Below.refl _ _).drew)⟩;rw[F.o.1,F.o.2,Q.o,<- Ro,HN.o];exact (VJ S.o _).drew
  .have B:=qK hlt Y.o;obtain⟨f,L,y⟩:=O7 HJ.o (by rw[B];exact hlt);have l:n=s.size:=by omega
   subst B;have WQ:=qh (Q.o.symm.trans y);have F:=qh (And.intro (f.trans l.symm) L);have an:=qh l;have VK:¬ ((J:Nat):Int)<((s.size:Nat):Int):=by omega
   clear f L y l;go_upto_region 4 with (fail);go_cut [3] (λ x wc=>x = bs bt (J:Nat)/\wc=W.setCell ⟨g,3,none⟩ (bA T))
   case first =>
    by_cases hJE:J=E
    .subst hJE;have r:(((J:Nat):Int) == ((J:Nat):Int))=true:=by simp
     by_cases b:0<J
     .have ab:(0:Int)<((J:Nat):Int):=by omega
      go_wp2_with fail
      go_meet
      exact⟨rfl,by rw[WQ.o]⟩
     .have ac:¬ (0:Int)<((J:Nat):Int):=by omega
      go_wp2_with fail
      go_meet
      exact⟨rfl,by rw[WQ.o]⟩
    .have r:(((J:Nat):Int) == ((E:Nat):Int))=false:=by simp;omega
     have Z:(J == E)=false:=by simp;omega
     go_wp2_with fail
     go_meet
     exact⟨rfl,by rw[WQ.o]⟩
   case rest =>
   obtain⟨rfl,rfl⟩:=hcut;have t:=acr v.o (bA T);obtain⟨d,j⟩:=aC (W.setCell ⟨g,3,none⟩ (bA T));have nS:=qh (show Kp g w d by rw[j];exact C.o.set 3 _);rw[<- j] at t;have a:=qh t;rw[<- j];clear t j i z3 c3;have i:d.cell? ⟨g,0,none⟩=some (bv s):=a.o.cell 0;have O:d.cell? ⟨g,1,none⟩=some (bs bt (A:Nat)):=a.o.cell 1;have G:d.cell? ⟨g,2,none⟩=some (bv u):=a.o.cell 2;have z1:d.frozen? ⟨g,1,none⟩=false:=a.o.frozen 1;have X:d.frozen? ⟨g,2,none⟩=false:=a.o.frozen 2;go_wp2_with fail;go_end0;refine⟨rfl,⟨?_,p.2,hs⟩,(nS.o.set 1 _).set 2 _⟩;rw[F.o.1,F.o.2,Q.o];exact VJ (acs a.o _) _
end Go.Proofs.YtcnagconagpkcaaGreatDoor
