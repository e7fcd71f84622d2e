/- Lemmas. -/
import Derived.Test.YtcnagconagpkcaaGreatDoorZ17
import Derived.Recover
import Derived.Defers
import Derived.Laws.Pointers
set_option maxHeartbeats 8000000
set_option maxRecDepth 100000
open Go.Value renaming int->br, string->bt, slice->bv, pointer->bw, bool->bx
open Go.IntKind renaming i64->bs
open Go.Ending renaming returned->bA, returned->bT
open Nat renaming le_refl->bB, zero_le->bS
open Bool renaming or_eq_false_iff->bE, eq_false_iff->bL, and_eq_true->bO, true_and->bR
open Go.IntWalk renaming i64_in->bN
namespace Go.Proofs.YtcnagconagpkcaaGreatDoor
open Go.RowKit Vtx
attribute [local go_sem ↓] Go.wp_at_zero Go.wp_at_succ
theorem Io (g:Nat) (s:ByteArray) (i:Nat) (w:World) (H:aP w g s i) (hm:TM w g) (t:Tok) (r:List Tok) (hL:wordsOf s.data.toList i=t :: r) (ht:t.touch=false) (T:t.tx = [40]) (hP:∀ L',L'.length<=r.length->fE 255 .or s L') :
  Calls Tryz.prog 319 #[bw (some ⟨g,0,none⟩)] w λ e w'=>vM w g s (Pz s.data.toList.length .bK [] (t :: r)) e w':=by
 have lL:=qh H;have HM:=qh hm;have aM:=H.b.lt;have bd:=H.s;have j:=iw hL;obtain⟨ea,et,eh⟩:=jU j.1;obtain⟨c0,tl,v,be,Z,S,ao,hv,c,a1,yV,vH,Ig,M,ay,K,jd⟩:=kM j.1;have zT:=fP j.1;rw[aT] at zT;have OH:=qh (show r=wordsOf s.data.toList (aN s i+(aK s i).length) by rw[ea,et];exact j.2);have Qy:=qh (show t.at_=aN s i from ea.symm);have sG:=qh j.1;have vF:=qh hL;have HV:=qh hv;have Dv:=qh (show tb (aK s i)=v by rw[et];exact hv);have jD:=qh eh;have ba:=qh (λ W (H:aP W g s i)=>gV g s i W H);have hc:kY t.tx=false:=by rw[T];decide
 have OL:c0=40:=by rw[S] at T;injection T
 have C:=qh (OI (n:=s.data.toList.length) (r:=r) ht T);rw[ht] at jD;obtain⟨R,hR⟩:=af (Pz s.data.toList.length .bK [] (t :: r));rw[hR] at C ⊢;rw[M] at hc;simp only[bE,decide_eq_false_iff_not] at hc;obtain⟨⟨⟨⟨⟨⟨h0,an⟩,X⟩,qo⟩,iq⟩,aE⟩,ax⟩:=hc;rw[h0] at yV;obtain⟨a4,bb⟩:=eU (z:=64) (n:=64) c an rfl rfl;obtain⟨a2,a9⟩:=eU (z:=35) (n:=35) c X rfl rfl;obtain⟨a0,a7⟩:=eU (z:=39) (n:=39) c qo rfl rfl;obtain⟨QX,QY⟩:=eU (z:=123) (n:=123) c iq rfl rfl;have st:(v.toList == [116,114,117,101])=false:=by have h:=jd [116,114,117,101] aE;simpa [tb] using h
 have sf:(v.toList == [102,97,108,115,101])=false:=by have h:=jd [102,97,108,115,101] ax;simpa [tb] using h
 have a8:((v[0].toNat:Int) == 40)=true:=by rw[c,OL];rfl
 have a6:(v[0].toNat == 40)=true:=by rw[c,OL];rfl
 obtain⟨i1,A⟩:=af (aN s i+(aK s i).length);have am:=qh A;rw[A] at OH;have IM:=qh hP;clear hR A hP;clear c M ay K jd j ea et eh S ao Z zT hv hL H hm;go_enter Tryz.func319,Tryz.ntmps319;go_upto_region 1 with (fail);obtain⟨W,hW,Q,BR,aX,ab,-⟩:=fA g w;have iV:=qh (show aP W g s i by rw[hW];exact lL.o.alloc _);have xU:=qh (HM.o.kp Q);have mi:=qh BR;rw[<- hW];clear hW BR;have d2:W.cell? ⟨g,2,none⟩=some (bt v):=by have h:=iV.o.b.cell 2;rw[show tb (aK s i)=v from Dv.o] at h;exact h
 have d3:W.cell? ⟨g,3,none⟩=some (bx false):=by have h:=iV.o.b.cell 3;rw[jD.o] at h;exact h
 have Dy:=qh (next_any g s i W iV.o);rw[am.o] at Dy;go_wp2_with (first | (go_at_call 284;(with_reducible refine (yV.o _).mono ?_);rintro e w1 ⟨rfl,rfl⟩) | (go_at_call 254;(with_reducible refine Dy.o.mono ?_);rintro e w2 ⟨rfl,O,p⟩));have ar:=qh O;have ng:=qh (Q.trans p);have rD:=qh (mi.o.kp p (by omega));have aZ:W.heap.size<=w2.heap.size:=p.size;have HC:=IM.o r (bB _) g i1 w2 ar.o (HM.o.kp ng.o) OH.o.symm;obtain⟨r2,L⟩:=af (Pz s.data.toList.length .or [] r);rw[L] at HC C;refine HC.mono ?_;clear HC L O p;cases r2 with
 | err k =>
  rintro e D ⟨rfl,f⟩;have a:R = .err k:=C.o;go_wp2_with fail;refine⟨rfl,?_⟩;rw[a];exact⟨rfl,ng.o.trans f⟩
 | ok es l1 =>
  rintro e D ⟨y,x,bc,rfl,rfl,rfl,J,P,f⟩;have ae:=qh J;obtain⟨ap,Y,ak,aa,aA,ac,al⟩:=J;rename_i I E F G a5;clear aA ac al ap Y ak aa;have N:(az y I E F G).toArray = (BC y I E F y.ar.length G):=rfl;rw[N];clear N;have aR:w2.heap.size<=D.heap.size:=f.size;have C:=qh (show R=dL s.data.toList.length [41] (wordsOf s.data.toList x) λ l2=>.ok [y] l2 from C.o);have Jf:=qh P;have IC:=qh (ng.o.trans f);have yX:=qh (rD.o.kp f (by omega));clear P f;go_upto_region 9 with (fail);obtain⟨B,d⟩:=aH (D.alloc (.cells (BC y I E F y.ar.length G) 67 (0,0)));have Gn:=qh (show aP B g s x by rw[d];exact Jf.o.alloc _);have qH:=qh (show Kp g w B by rw[d];exact IC.o.alloc _);have Gp:=qh (show ZB B w.heap.size by rw[d];exact yX.o.alloc _);have ad:=qh (show ag B D.heap.size 67 (BC y I E F y.ar.length G) by rw[d];exact ag.new D _ _);have av:=qh (show cO B (λ b=>W.heap.size<=b) B.heap.size y (az y I E F G) by
   rw[d];exact ((ae.o.imp (q:=λ b=>W.heap.size<=b) (λ k hk _=>by omega)).keep (dI.of ((Below.refl _ _).alloc (bB _) _))).up (by simp))
  have a3:g<D.heap.size:=Jf.o.b.lt;rw[<- d];clear d;go_wp2_with fail;have V:=take_any g s x B Gn.o [41] (by decide);obtain⟨i6,U⟩:=af (aN s x+(aK s x).length);have u:=λ h=>kL (s:=s) (i:=x) (word:=[41]) h;rw[show tb [41]=⟨#[41]⟩ from rfl,U] at V;rw[U] at u;refine V.mono ?_;intro e w8 o;obtain⟨b5,l⟩:=af (mW (wordsOf s.data.toList x) [41]);rw[l] at o;cases b5
  .rw[if_neg (by decide)] at o;obtain⟨rfl,rfl⟩:=o;have a:R = .err (aN s x):=by rw[C.o];unfold dL;rw[if_neg (by rw[l];decide),mJ]
   have jI:=qh a;clear a V u U;go_wp2_with fail;refine⟨rfl,?_⟩;rw[jI.o];exact⟨rfl,qH.o⟩
  .rw[if_pos rfl] at o;obtain⟨rfl,QS,m⟩:=o;have a:R = .ok [y] (wordsOf s.data.toList i6):=by rw[C.o];unfold dL;rw[if_pos l,<- (u l).1]
   have jI:=qh a;have aw:=qh (av.o.YX m (λ k hk=>by omega));have aL:=qh QS;have aD:=qh (qH.o.trans m);have B8:=ad.o.kp m (by omega);have aq:=Gp.o.kp m (by omega);clear a V u U l QS m;obtain⟨iK,iL,iM,iQ,iR,iT,iU,iC⟩:=ag.c8 B8;obtain⟨dM,jY,eQ,jZ,gW,oH,gX,oI,jM,yw,jO,yx,jP,yz,jQ,yA⟩:=ag.z8 aq;go_wp2_with fail;refine bodyPost_ret (v:=.agg (BC y I E F y.ar.length G)) (by simp[results,Tryz.results319,go_sem,dM,eQ,gW,gX,jM,jO,jP,jQ]) rfl ?_;rw[jI.o];exact sO aw.o ab aM aL.o aD.o
theorem OM (g:Nat) (s:ByteArray) (i:Nat) (w:World) (l:aP w g s i) (L:TM w g) (t:Tok) (r:List Tok) (I:wordsOf s.data.toList i=t :: r) (ht:t.touch=false) (G:kY t.tx=false) (V:t.tx≠[40]) (p:nameB t.tx=false) :
  Calls Tryz.prog 319 #[bw (some ⟨g,0,none⟩)] w λ e w'=>vM w g s (Pz s.data.toList.length .bK [] (t :: r)) e w':=by
 have T:=qh l;have X:=qh L;have aq:=l.b.lt;have ao:=l.s;have a:=iw I;obtain⟨H,C,P⟩:=jU a.1;obtain⟨U,tl,v,ap,u,m,A,F,b,ab,N,D,Ig,k,o,d,E⟩:=kM a.1;have K:=fP a.1;rw[aT] at K;have OH:=qh (show r=wordsOf s.data.toList (aN s i+(aK s i).length) by rw[H,C];exact a.2);have Qy:=qh (show t.at_=aN s i from H.symm);have sG:=qh a.1;have vF:=qh I;have HV:=qh F;have Y:=qh (show tb (aK s i)=v by rw[C];exact F);have R:=qh P;have B:=qh (λ W (l:aP W g s i)=>gV g s i W l);have OL:U≠40:=λ e=>V (xK a.1 (w:=tl) (by rw[m,e]));rw[Zi ht G V p,Qy.o];rw[ht] at R;rw[k] at G;simp only[bE,decide_eq_false_iff_not] at G;obtain⟨⟨⟨⟨⟨⟨h0,O⟩,J⟩,qo⟩,iq⟩,S⟩,Q⟩:=G;rw[h0] at N;obtain⟨ad,an⟩:=eU (z:=64) (n:=64) b O rfl rfl;obtain⟨ac,am⟩:=eU (z:=35) (n:=35) b J rfl rfl;obtain⟨aa,ak⟩:=eU (z:=39) (n:=39) b qo rfl rfl;obtain⟨QX,QY⟩:=eU (z:=123) (n:=123) b iq rfl rfl;have st:(v.toList == [116,114,117,101])=false:=by have h:=E [116,114,117,101] S;simpa [tb] using h
 have sf:(v.toList == [102,97,108,115,101])=false:=by have h:=E [102,97,108,115,101] Q;simpa [tb] using h
 obtain⟨al,ae⟩:=eU (z:=40) (n:=40) b OL rfl rfl;rw[o] at p;by_cases hl:pX U=true
 .rw[hl] at p D;have Z:bH.contains t.tx=true:=by simpa using p
  rw[Z] at Ig;clear hl p Z;clear b k o d E a H C P m A u K F I l L;go_enter Tryz.func319,Tryz.ntmps319;go_upto_region 1 with (fail);obtain⟨W,f,c,y,x,M,-⟩:=fA g w;have j:=qh (show aP W g s i by rw[f];exact T.o.alloc _);have xU:=qh (X.o.kp c);have mi:=qh y;rw[<- f];clear f y;have d2:W.cell? ⟨g,2,none⟩=some (bt v):=by have h:=j.o.b.cell 2;rw[show tb (aK s i)=v from Y.o] at h;exact h
  have d3:W.cell? ⟨g,3,none⟩=some (bx false):=by have h:=j.o.b.cell 3;rw[R.o] at h;exact h
  go_wp2_with (first | (go_at_call 284;(with_reducible refine (N.o _).mono ?_);rintro e q ⟨rfl,rfl⟩) | (go_at_call 55;(with_reducible refine (D.o _).mono ?_);rintro e q ⟨rfl,rfl⟩) | (go_at_call 56;(with_reducible refine (Ig.o _).mono ?_);rintro e q ⟨rfl,rfl⟩) | (go_at_call 256;(with_reducible refine (B.o _ j.o).mono ?_);rintro e q ⟨rfl,rfl⟩));exact⟨rfl,rfl,c⟩
 .rw[bL.2 hl] at D;clear hl p;clear b k o d E a H C P m A u K F I l L;go_enter Tryz.func319,Tryz.ntmps319;go_upto_region 1 with (fail);obtain⟨W,f,c,y,x,M,-⟩:=fA g w;have j:=qh (show aP W g s i by rw[f];exact T.o.alloc _);have xU:=qh (X.o.kp c);have mi:=qh y;rw[<- f];clear f y;have d2:W.cell? ⟨g,2,none⟩=some (bt v):=by have h:=j.o.b.cell 2;rw[show tb (aK s i)=v from Y.o] at h;exact h
  have d3:W.cell? ⟨g,3,none⟩=some (bx false):=by have h:=j.o.b.cell 3;rw[R.o] at h;exact h
  go_wp2_with (first | (go_at_call 284;(with_reducible refine (N.o _).mono ?_);rintro e q ⟨rfl,rfl⟩) | (go_at_call 55;(with_reducible refine (D.o _).mono ?_);rintro e q ⟨rfl,rfl⟩) | (go_at_call 256;(with_reducible refine (B.o _ j.o).mono ?_);rintro e q ⟨rfl,rfl⟩));exact⟨rfl,rfl,c⟩
theorem Ip (g:Nat) (s:ByteArray) (i:Nat) (w:World) (K:aP w g s i) (hm:TM w g) (t:Tok) (r:List Tok) (hL:wordsOf s.data.toList i=t :: r) (ht:t.touch=false) (hc:kY t.tx=false) (xY:t.tx≠[40]) (O:nameB t.tx=true) (hd:pF t r=false) :
  Calls Tryz.prog 319 #[bw (some ⟨g,0,none⟩)] w λ e w'=>vM w g s (Pz s.data.toList.length .bK [] (t :: r)) e w':=by
 have lL:=qh K;have HM:=qh hm;have ab:=K.b.lt;have aR:=K.s;have l:=iw hL;obtain⟨ea,et,eh⟩:=jU l.1;obtain⟨c0,tl,v,aX,S,M,Z,D,m,ap,yV,vH,Ig,H,N,E,jd⟩:=kM l.1;have zT:=fP l.1;rw[aT] at zT;have OH:=qh (show r=wordsOf s.data.toList (aN s i+(aK s i).length) by rw[ea,et];exact l.2);have Qy:=qh (show t.at_=aN s i from ea.symm);have sG:=qh l.1;have vF:=qh hL;have HV:=qh D;have Dv:=qh (show tb (aK s i)=v by rw[et];exact D);have jD:=qh eh;have aL:=qh (λ W (K:aP W g s i)=>gV g s i W K);have OL:c0≠40:=λ e=>xY (xK l.1 (w:=tl) (by rw[M,e]));rw[ht] at jD;have Ji:=qh (QW (n:=s.data.toList.length) (r:=r) ht hc xY O hd);obtain⟨R,hR⟩:=af (Pz s.data.toList.length .bK [] (t :: r));rw[hR] at Ji ⊢;rw[H] at hc;simp only[bE,decide_eq_false_iff_not] at hc;obtain⟨⟨⟨⟨⟨⟨h0,ae⟩,ac⟩,qo⟩,iq⟩,an⟩,al⟩:=hc;rw[h0] at yV;obtain⟨ax,aM⟩:=eU (z:=64) (n:=64) m ae rfl rfl;obtain⟨aw,aE⟩:=eU (z:=35) (n:=35) m ac rfl rfl;obtain⟨ao,aA⟩:=eU (z:=39) (n:=39) m qo rfl rfl;obtain⟨QX,QY⟩:=eU (z:=123) (n:=123) m iq rfl rfl;have st:(v.toList == [116,114,117,101])=false:=by have h:=jd [116,114,117,101] an;simpa [tb] using h
 have sf:(v.toList == [102,97,108,115,101])=false:=by have h:=jd [102,97,108,115,101] al;simpa [tb] using h
 obtain⟨aD,ay⟩:=eU (z:=40) (n:=40) m OL rfl rfl;rw[N,bO] at O;rw[O.1] at vH;have hr:bH.contains t.tx=false:=by simpa using O.2
 rw[hr] at Ig;obtain⟨P,C⟩:=af (t.at_);obtain⟨J,hJ⟩:=af (P+v.size);have QZ:J=t.at_+t.tx.length:=by rw[<- hJ,<- C,<- D,kS]
 have d:=yS (s:=s.data.toList) (t:=t) QZ;have I:r=wordsOf s.data.toList J:=by rw[QZ];exact l.2
 rw[<- I,hd,aT] at d;have aq:J<=s.size:=by rw[QZ];omega
 have aa:=qh (show aN s i=P by rw[ea,C]);have ak:((P:Nat):Int)+(v.size:Nat)=(J:Nat):=by omega
 have av:IntKind.i64.wrap (((P:Nat):Int)+(v.size:Nat))=(J:Nat):=by rw[ak];exact bN _ (by omega)
 obtain⟨i1,u⟩:=af (aN s i+(aK s i).length);have Y:=qh u;rw[u] at OH;have CJ:t.tx.length<=4000:=by omega
 have OG:=qh CJ;by_cases hJ1:J<s.size
 .have am:s[J].toNat≠40:=λ e=>by
   rw[decide_eq_true hJ1,bR,lN hJ1] at d;have h2:=of_decide_eq_false d.symm;exact h2 (UInt8.toNat_inj.1 e)
  have ar:(((s[J]'hJ1).toNat:Int) == 40)=false:=by simp;omega
  have aZ:((s[J]'hJ1).toNat == 40)=false:=by simp;omega
  have ad:((J:Nat):Int)<((s.size:Nat):Int):=by omega
  clear am;clear hr O m d I C u hR QZ CJ H N E jd l ea et eh M Z S zT D hL K hm;go_enter Tryz.func319,Tryz.ntmps319;go_upto_region 1 with (fail);obtain⟨W,G,q,X,V,F,-⟩:=fA g w;have y:=qh (show aP W g s i by rw[G];exact lL.o.alloc _);have xU:=qh (HM.o.kp q);have mi:=qh X;rw[<- G];clear G X;have d2:W.cell? ⟨g,2,none⟩=some (bt v):=by have h:=y.o.b.cell 2;rw[show tb (aK s i)=v from Dv.o] at h;exact h
  have d3:W.cell? ⟨g,3,none⟩=some (bx false):=by have h:=y.o.b.cell 3;rw[jD.o] at h;exact h
  have d1:W.cell? ⟨g,1,none⟩=some (br bs (P:Nat)):=by have h:=y.o.b.cell 1;rw[aa.o] at h;exact h
  go_upto_region 13 with (first | (go_at_call 284;(with_reducible refine (yV.o _).mono ?_);rintro e Q ⟨rfl,rfl⟩) | (go_at_call 55;(with_reducible refine (vH.o _).mono ?_);rintro e Q ⟨rfl,rfl⟩) | (go_at_call 56;(with_reducible refine (Ig.o _).mono ?_);rintro e Q ⟨rfl,rfl⟩));go_quiet (fail);obtain⟨W1,o⟩:=aH (W.drewN nq);have f:EG W W1:=by rw[o];exact (Below.refl _ _).drewN nq
  have yU:=qh (y.o.below f);have CG:=qh (q.trans (Kp.of f));have Ag:=qh (mi.o.below f mi.o.lt);have T:W.heap.size<=W1.heap.size:=f.size;rw[<- o];clear o f d1 d2 d3;have d0:W1.cell? ⟨g,0,none⟩=some (bt s):=yU.o.b.cell 0;have U:=qh (next_any g s i W1 yU.o);rw[Y.o] at U;go_wp2_with (go_at_call 254;(with_reducible refine U.o.mono ?_);rintro e b ⟨rfl,xX,p⟩;have Ic:=qh xX;have Ib:=qh (CG.o.trans p);have a:=Ag.o.kp p (by omega);have dM:b.cell? ⟨w.heap.size,0,none⟩=some (br bs 0):=a.cell 0;have jY:b.frozen? ⟨w.heap.size,0,none⟩=false:=a.frozen 0;have eQ:b.cell? ⟨w.heap.size,1,none⟩=some (br bs 0):=a.cell 1;have jZ:b.frozen? ⟨w.heap.size,1,none⟩=false:=a.frozen 1;have gW:b.cell? ⟨w.heap.size,2,none⟩=some (bt ⟨#[]⟩):=a.cell 2;have oH:b.frozen? ⟨w.heap.size,2,none⟩=false:=a.frozen 2;have gX:b.cell? ⟨w.heap.size,3,none⟩=some (br bs 0):=a.cell 3;have oI:b.frozen? ⟨w.heap.size,3,none⟩=false:=a.frozen 3;have jM:b.cell? ⟨w.heap.size,4,none⟩=some (br bs 0):=a.cell 4;have yw:b.frozen? ⟨w.heap.size,4,none⟩=false:=a.frozen 4;have jO:b.cell? ⟨w.heap.size,5,none⟩=some (bt ⟨#[]⟩):=a.cell 5;have yx:b.frozen? ⟨w.heap.size,5,none⟩=false:=a.frozen 5;have jP:b.cell? ⟨w.heap.size,6,none⟩=some (bv none 0 0):=a.cell 6;have yz:b.frozen? ⟨w.heap.size,6,none⟩=false:=a.frozen 6;have jQ:b.cell? ⟨w.heap.size,7,none⟩=some (bv none 0 0):=a.cell 7;have yA:b.frozen? ⟨w.heap.size,7,none⟩=false:=a.frozen 7);refine bodyPost_ret (v:=.agg #[br bs 2,br bs 0,bt v,br bs 0,br bs 0,bt ⟨#[]⟩,bv none 0 0,bv none 0 0]) (by simp[results,Tryz.results319,go_sem,dM,eQ,gW,gX,jM,jO,jP,jQ]) rfl ?_;have D:=HV.o;subst D;rw[Ji.o,OH.o];exact sO (L:=W.heap.size) (x:=iH 2 0 t.tx []) (A:=none) (c:=0) (A':=none) (c':=0) (sV (B:=W.heap.size) (css:=[]) 2 0 t.tx (by have:=OG.o;unfold maxLen;omega) ⟨rfl,λ j h=>absurd h (by simp)⟩ (λ k hk=>hk) ⟨rfl,.inl ⟨rfl,rfl⟩⟩ (bS _)) F ab Ic.o Ib.o
 .have ad:¬ ((J:Nat):Int)<((s.size:Nat):Int):=by omega
  clear hr O m d I C u hR QZ CJ H N E jd l ea et eh M Z S zT D hL K hm;go_enter Tryz.func319,Tryz.ntmps319;go_upto_region 1 with (fail);obtain⟨W,G,q,X,V,F,-⟩:=fA g w;have y:=qh (show aP W g s i by rw[G];exact lL.o.alloc _);have xU:=qh (HM.o.kp q);have mi:=qh X;rw[<- G];clear G X;have d2:W.cell? ⟨g,2,none⟩=some (bt v):=by have h:=y.o.b.cell 2;rw[show tb (aK s i)=v from Dv.o] at h;exact h
  have d3:W.cell? ⟨g,3,none⟩=some (bx false):=by have h:=y.o.b.cell 3;rw[jD.o] at h;exact h
  have d1:W.cell? ⟨g,1,none⟩=some (br bs (P:Nat)):=by have h:=y.o.b.cell 1;rw[aa.o] at h;exact h
  go_upto_region 13 with (first | (go_at_call 284;(with_reducible refine (yV.o _).mono ?_);rintro e Q ⟨rfl,rfl⟩) | (go_at_call 55;(with_reducible refine (vH.o _).mono ?_);rintro e Q ⟨rfl,rfl⟩) | (go_at_call 56;(with_reducible refine (Ig.o _).mono ?_);rintro e Q ⟨rfl,rfl⟩));go_quiet (fail);obtain⟨W1,o⟩:=aH (W.drewN nq);have f:EG W W1:=by rw[o];exact (Below.refl _ _).drewN nq
  have yU:=qh (y.o.below f);have CG:=qh (q.trans (Kp.of f));have Ag:=qh (mi.o.below f mi.o.lt);have T:W.heap.size<=W1.heap.size:=f.size;rw[<- o];clear o f d1 d2 d3;have d0:W1.cell? ⟨g,0,none⟩=some (bt s):=yU.o.b.cell 0;have U:=qh (next_any g s i W1 yU.o);rw[Y.o] at U;go_wp2_with (go_at_call 254;(with_reducible refine U.o.mono ?_);rintro e b ⟨rfl,xX,p⟩;have Ic:=qh xX;have Ib:=qh (CG.o.trans p);have a:=Ag.o.kp p (by omega);have dM:b.cell? ⟨w.heap.size,0,none⟩=some (br bs 0):=a.cell 0;have jY:b.frozen? ⟨w.heap.size,0,none⟩=false:=a.frozen 0;have eQ:b.cell? ⟨w.heap.size,1,none⟩=some (br bs 0):=a.cell 1;have jZ:b.frozen? ⟨w.heap.size,1,none⟩=false:=a.frozen 1;have gW:b.cell? ⟨w.heap.size,2,none⟩=some (bt ⟨#[]⟩):=a.cell 2;have oH:b.frozen? ⟨w.heap.size,2,none⟩=false:=a.frozen 2;have gX:b.cell? ⟨w.heap.size,3,none⟩=some (br bs 0):=a.cell 3;have oI:b.frozen? ⟨w.heap.size,3,none⟩=false:=a.frozen 3;have jM:b.cell? ⟨w.heap.size,4,none⟩=some (br bs 0):=a.cell 4;have yw:b.frozen? ⟨w.heap.size,4,none⟩=false:=a.frozen 4;have jO:b.cell? ⟨w.heap.size,5,none⟩=some (bt ⟨#[]⟩):=a.cell 5;have yx:b.frozen? ⟨w.heap.size,5,none⟩=false:=a.frozen 5;have jP:b.cell? ⟨w.heap.size,6,none⟩=some (bv none 0 0):=a.cell 6;have yz:b.frozen? ⟨w.heap.size,6,none⟩=false:=a.frozen 6;have jQ:b.cell? ⟨w.heap.size,7,none⟩=some (bv none 0 0):=a.cell 7;have yA:b.frozen? ⟨w.heap.size,7,none⟩=false:=a.frozen 7);refine bodyPost_ret (v:=.agg #[br bs 2,br bs 0,bt v,br bs 0,br bs 0,bt ⟨#[]⟩,bv none 0 0,bv none 0 0]) (by simp[results,Tryz.results319,go_sem,dM,eQ,gW,gX,jM,jO,jP,jQ]) rfl ?_;have D:=HV.o;subst D;rw[Ji.o,OH.o];exact sO (L:=W.heap.size) (x:=iH 2 0 t.tx []) (A:=none) (c:=0) (A':=none) (c':=0) (sV (B:=W.heap.size) (css:=[]) 2 0 t.tx (by have:=OG.o;unfold maxLen;omega) ⟨rfl,λ j h=>absurd h (by simp)⟩ (λ k hk=>hk) ⟨rfl,.inl ⟨rfl,rfl⟩⟩ (bS _)) F ab Ic.o Ib.o
theorem Kt (g:Nat) (s:ByteArray) (i:Nat) (w:World) (F:aP w g s i) (hm:TM w g) (t:Tok) (r:List Tok) (hL:wordsOf s.data.toList i=t :: r) (ht:t.touch=false) (T:kY t.tx=false) (xY:t.tx≠[40]) (G:nameB t.tx=true) (hd:pF t r=true) (ho:gy t.tx=0) (hq:kZ t.tx=0) (hx:t.tx≠yJ) :
  Calls Tryz.prog 319 #[bw (some ⟨g,0,none⟩)] w λ e w'=>vM w g s (Pz s.data.toList.length .bK [] (t :: r)) e w':=by
 have lL:=qh F;have HM:=qh hm;have ao:=F.b.lt;have a1:=F.s;have b:=iw hL;obtain⟨V,et,eh⟩:=jU b.1;obtain⟨c0,tl,v,a2,Z,P,ae,y,l,av,yV,vH,Ig,K,Q,I,jd⟩:=kM b.1;have zT:=fP b.1;rw[aT] at zT;have OH:=qh (show r=wordsOf s.data.toList (aN s i+(aK s i).length) by rw[V,et];exact b.2);have Qy:=qh (show t.at_=aN s i from V.symm);have sG:=qh b.1;have vF:=qh hL;have HV:=qh y;have Dv:=qh (show tb (aK s i)=v by rw[et];exact y);have jD:=qh eh;have aZ:=qh (λ W (F:aP W g s i)=>gV g s i W F);have OL:c0≠40:=λ e=>xY (xK b.1 (w:=tl) (by rw[P,e]));rw[ht] at jD;have Ji:=qh (VH (n:=s.data.toList.length) (r:=r) ht T xY G hd ho hq hx);obtain⟨R,hR⟩:=af (Pz s.data.toList.length .bK [] (t :: r));rw[hR] at Ji ⊢;rw[K] at T;simp only[bE,decide_eq_false_iff_not] at T;obtain⟨⟨⟨⟨⟨⟨h0,ad⟩,Y⟩,qo⟩,iq⟩,am⟩,al⟩:=T;rw[h0] at yV;obtain⟨aD,a0⟩:=eU (z:=64) (n:=64) l ad rfl rfl;obtain⟨aA,aX⟩:=eU (z:=35) (n:=35) l Y rfl rfl;obtain⟨ar,aM⟩:=eU (z:=39) (n:=39) l qo rfl rfl;obtain⟨QX,QY⟩:=eU (z:=123) (n:=123) l iq rfl rfl;have st:(v.toList == [116,114,117,101])=false:=by have h:=jd [116,114,117,101] am;simpa [tb] using h
 have sf:(v.toList == [102,97,108,115,101])=false:=by have h:=jd [102,97,108,115,101] al;simpa [tb] using h
 obtain⟨aR,aL⟩:=eU (z:=40) (n:=40) l OL rfl rfl;rw[Q,bO] at G;rw[G.1] at vH;have hr:bH.contains t.tx=false:=by simpa using G.2
 rw[hr] at Ig;obtain⟨O,u⟩:=af (t.at_);obtain⟨J,hJ⟩:=af (O+v.size);have U:J=t.at_+t.tx.length:=by rw[<- hJ,<- u,<- y,kS]
 have a:=yS (s:=s.data.toList) (t:=t) U;have M:r=wordsOf s.data.toList J:=by rw[U];exact b.2
 rw[<- M,hd,aT] at a;have aw:J<=s.size:=by rw[U];omega
 have an:=qh (show aN s i=O by rw[V,u]);have ak:((O:Nat):Int)+(v.size:Nat)=(J:Nat):=by omega
 have ay:IntKind.i64.wrap (((O:Nat):Int)+(v.size:Nat))=(J:Nat):=by rw[ak];exact bN _ (by omega)
 obtain⟨i1,q⟩:=af (aN s i+(aK s i).length);have ac:=qh q;rw[q] at OH;have CJ:t.tx.length<=4000:=by omega
 have OG:=qh CJ;have m:J<s.size:=by
  have h1:decide (J<s.size)=true:=by
   cases h:decide (J<s.size) with
   | true=>rfl
   | false=>rw[h] at a;cases a
  exact of_decide_eq_true h1
 have ab:(s[J]'m).toNat=40:=by
  rw[decide_eq_true m,bR,lN m] at a;have h2:=of_decide_eq_true a.symm;rw[h2];rfl
 have ax:(((s[J]'m).toNat:Int) == 40)=true:=by simp;omega
 have a3:((s[J]'m).toNat == 40)=true:=by simp;omega
 have aE:((J:Nat):Int)<((s.size:Nat):Int):=by omega
 clear ab;have X:=qh (λ W=>y▸VB g W t.tx ho hq hx);clear hr G l a M u q hR U CJ K Q I jd b V et eh P ae Z zT y hL F hm;go_enter Tryz.func319,Tryz.ntmps319;go_upto_region 1 with (fail);obtain⟨W,hW,N,BR,aq,aa,-⟩:=fA g w;have S:=qh (show aP W g s i by rw[hW];exact lL.o.alloc _);have xU:=qh (HM.o.kp N);have mi:=qh BR;rw[<- hW];clear hW BR;have d2:W.cell? ⟨g,2,none⟩=some (bt v):=by have h:=S.o.b.cell 2;rw[show tb (aK s i)=v from Dv.o] at h;exact h
 have d3:W.cell? ⟨g,3,none⟩=some (bx false):=by have h:=S.o.b.cell 3;rw[jD.o] at h;exact h
 have d1:W.cell? ⟨g,1,none⟩=some (br bs (O:Nat)):=by have h:=S.o.b.cell 1;rw[an.o] at h;exact h
 go_upto_region 13 with (first | (go_at_call 284;(with_reducible refine (yV.o _).mono ?_);rintro e w1 ⟨rfl,rfl⟩) | (go_at_call 55;(with_reducible refine (vH.o _).mono ?_);rintro e w1 ⟨rfl,rfl⟩) | (go_at_call 56;(with_reducible refine (Ig.o _).mono ?_);rintro e w1 ⟨rfl,rfl⟩));go_quiet (fail);obtain⟨W1,D⟩:=aH (W.drewN nq);have o:EG W W1:=by rw[D];exact (Below.refl _ _).drewN nq
 have yU:=qh (S.o.below o);have CG:=qh (N.trans (Kp.of o));have Ag:=qh (mi.o.below o mi.o.lt);have ap:W.heap.size<=W1.heap.size:=o.size;rw[<- D];clear D o d1 d2 d3;have d0:W1.cell? ⟨g,0,none⟩=some (bt s):=yU.o.b.cell 0;go_wp2_with fail;refine (X.o W1).mono ?_;rintro e w2 ⟨rfl,C⟩;go_upto_region 16 with (fail);obtain⟨W3,E⟩:=aH (w2.alloc (.cells #[br bs 0,br bs 0,bt ⟨#[]⟩,br bs 0,br bs 0,bt ⟨#[]⟩,bv none 0 0,bv none 0 0] 67 (0,0)));have p:EG W1 W3:=by rw[E];exact C.alloc C.size _
 have Gn:=qh (yU.o.below p);have qH:=qh (CG.o.trans (Kp.of p));have yX:=qh (Ag.o.below p Ag.o.lt);rw[<- E];clear E C p;have Dy:=qh (next_any g s i W3 Gn.o);rw[ac.o] at Dy;go_wp2_with (go_at_call 254;(with_reducible refine Dy.o.mono ?_);rintro e f ⟨rfl,xX,H⟩;have Ic:=qh xX;have Ib:=qh (qH.o.trans H);have d:=yX.o.kp H (by omega);have dM:f.cell? ⟨w.heap.size,0,none⟩=some (br bs 0):=d.cell 0;have jY:f.frozen? ⟨w.heap.size,0,none⟩=false:=d.frozen 0;have eQ:f.cell? ⟨w.heap.size,1,none⟩=some (br bs 0):=d.cell 1;have jZ:f.frozen? ⟨w.heap.size,1,none⟩=false:=d.frozen 1;have gW:f.cell? ⟨w.heap.size,2,none⟩=some (bt ⟨#[]⟩):=d.cell 2;have oH:f.frozen? ⟨w.heap.size,2,none⟩=false:=d.frozen 2;have gX:f.cell? ⟨w.heap.size,3,none⟩=some (br bs 0):=d.cell 3;have oI:f.frozen? ⟨w.heap.size,3,none⟩=false:=d.frozen 3;have jM:f.cell? ⟨w.heap.size,4,none⟩=some (br bs 0):=d.cell 4;have yw:f.frozen? ⟨w.heap.size,4,none⟩=false:=d.frozen 4;have jO:f.cell? ⟨w.heap.size,5,none⟩=some (bt ⟨#[]⟩):=d.cell 5;have yx:f.frozen? ⟨w.heap.size,5,none⟩=false:=d.frozen 5;have jP:f.cell? ⟨w.heap.size,6,none⟩=some (bv none 0 0):=d.cell 6;have yz:f.frozen? ⟨w.heap.size,6,none⟩=false:=d.frozen 6;have jQ:f.cell? ⟨w.heap.size,7,none⟩=some (bv none 0 0):=d.cell 7;have yA:f.frozen? ⟨w.heap.size,7,none⟩=false:=d.frozen 7);refine bodyPost_ret (v:=.agg #[br bs 2,br bs 0,bt v,br bs 0,br bs 0,bt ⟨#[]⟩,bv none 0 0,bv none 0 0]) (by simp[results,Tryz.results319,go_sem,dM,eQ,gW,gX,jM,jO,jP,jQ]) rfl ?_;have y:=HV.o;subst y;rw[Ji.o,OH.o];exact sO (L:=W.heap.size) (x:=iH 2 0 t.tx []) (A:=none) (c:=0) (A':=none) (c':=0) (sV (B:=W.heap.size) (css:=[]) 2 0 t.tx (by have:=OG.o;unfold maxLen;omega) ⟨rfl,λ j h=>absurd h (by simp)⟩ (λ k hk=>hk) ⟨rfl,.inl ⟨rfl,rfl⟩⟩ (bS _)) aa ao Ic.o Ib.o
theorem Ku (g:Nat) (s:ByteArray) (i:Nat) (w:World) (H:aP w g s i) (hm:TM w g) (t:Tok) (r:List Tok) (hL:wordsOf s.data.toList i=t :: r) (ht:t.touch=false) (hc:kY t.tx=false) (xY:t.tx≠[40]) (K:nameB t.tx=true) (G:pF t r=true) (hy:¬ (gy t.tx=0/\kZ t.tx=0/\t.tx≠yJ)) (hP:∀ L',L'.length<r.length->fE 255 .or s L') :
  Calls Tryz.prog 319 #[bw (some ⟨g,0,none⟩)] w λ e w'=>vM w g s (Pz s.data.toList.length .bK [] (t :: r)) e w':=by
 have lL:=qh H;have HM:=qh hm;have a3:=H.b.lt;have bn:=H.s;have c:=iw hL;obtain⟨ea,et,eh⟩:=jU c.1;obtain⟨c0,tl,v,bp,ae,Z,ax,S,j,a8,yV,vH,Ig,Q,aa,N,jd⟩:=kM c.1;have zT:=fP c.1;rw[aT] at zT;have OH:=qh (show r=wordsOf s.data.toList (aN s i+(aK s i).length) by rw[ea,et];exact c.2);have Qy:=qh (show t.at_=aN s i from ea.symm);have sG:=qh c.1;have vF:=qh hL;have HV:=qh S;have Dv:=qh (show tb (aK s i)=v by rw[et];exact S);have jD:=qh eh;have bl:=qh (λ W (H:aP W g s i)=>gV g s i W H);have OL:c0≠40:=λ e=>xY (xK c.1 (w:=tl) (by rw[Z,e]));rw[ht] at jD;have P:=qh (VI (n:=s.data.toList.length) (r:=r) ht hc xY K G hy);obtain⟨R,hR⟩:=af (Pz s.data.toList.length .bK [] (t :: r));rw[hR] at P ⊢;rw[Q] at hc;simp only[bE,decide_eq_false_iff_not] at hc;obtain⟨⟨⟨⟨⟨⟨h0,aq⟩,ad⟩,qo⟩,iq⟩,a1⟩,aR⟩:=hc;rw[h0] at yV;obtain⟨be,bm⟩:=eU (z:=64) (n:=64) j aq rfl rfl;obtain⟨bc,bk⟩:=eU (z:=35) (n:=35) j ad rfl rfl;obtain⟨a7,bi⟩:=eU (z:=39) (n:=39) j qo rfl rfl;obtain⟨QX,QY⟩:=eU (z:=123) (n:=123) j iq rfl rfl;have st:(v.toList == [116,114,117,101])=false:=by have h:=jd [116,114,117,101] a1;simpa [tb] using h
 have sf:(v.toList == [102,97,108,115,101])=false:=by have h:=jd [102,97,108,115,101] aR;simpa [tb] using h
 obtain⟨bj,bh⟩:=eU (z:=40) (n:=40) j OL rfl rfl;rw[aa,bO] at K;rw[K.1] at vH;have hr:bH.contains t.tx=false:=by simpa using K.2
 rw[hr] at Ig;obtain⟨Y,A⟩:=af (t.at_);obtain⟨J,hJ⟩:=af (Y+v.size);have QZ:J=t.at_+t.tx.length:=by rw[<- hJ,<- A,<- S,kS]
 have a:=yS (s:=s.data.toList) (t:=t) QZ;have V:r=wordsOf s.data.toList J:=by rw[QZ];exact c.2
 rw[<- V,G,aT] at a;have a9:J<=s.size:=by rw[QZ];omega
 have a2:=qh (show aN s i=Y by rw[ea,A]);have aD:((Y:Nat):Int)+(v.size:Nat)=(J:Nat):=by omega
 have bb:IntKind.i64.wrap (((Y:Nat):Int)+(v.size:Nat))=(J:Nat):=by rw[aD];exact bN _ (by omega)
 obtain⟨i1,p⟩:=af (aN s i+(aK s i).length);have bf:=qh p;rw[p] at OH;have CJ:t.tx.length<=4000:=by omega
 have OG:=qh CJ;have l:J<s.size:=by
  have h1:decide (J<s.size)=true:=by
   cases h:decide (J<s.size) with
   | true=>rfl
   | false=>rw[h] at a;cases a
  exact of_decide_eq_true h1
 have al:(s[J]'l).toNat=40:=by
  rw[decide_eq_true l,bR,lN l] at a;have h2:=of_decide_eq_true a.symm;rw[h2];rfl
 have ba:(((s[J]'l).toNat:Int) == 40)=true:=by simp;omega
 have bq:((s[J]'l).toNat == 40)=true:=by simp;omega
 have bg:((J:Nat):Int)<((s.size:Nat):Int):=by omega
 clear al;obtain⟨u,x,o,ac⟩:∃ u x,r=u :: x/\u.tx = [40]:=by
  cases hr':r with
  | nil=>rw[hr'] at G;cases G
  | cons u x =>
   rw[hr'] at G;have h1:(decide (u.tx = [40]) && decide (u.at_=t.at_+t.tx.length))=true:=G;rw[bO,decide_eq_true_iff] at h1;exact⟨u,x,rfl,h1.1⟩
 have av:=qh (λ W (aM:aP W g s i) (ay:TM W g)=>S▸Zj g s i W aM ay t u x (by rw[hL,o]) ac hy (λ L' h=>hP L' (by rw[o];simp;omega)));have a0:=qh (show r.tail=x by rw[o];rfl);clear ac hy hP o;clear hr K j a V A p hR QZ CJ Q aa N jd c ea et eh Z ax ae zT S hL H hm;go_enter Tryz.func319,Tryz.ntmps319;go_upto_region 1 with (fail);obtain⟨W,hW,X,BR,a5,ak,-⟩:=fA g w;have iV:=qh (show aP W g s i by rw[hW];exact lL.o.alloc _);have xU:=qh (HM.o.kp X);have mi:=qh BR;rw[<- hW];clear hW BR;have d2:W.cell? ⟨g,2,none⟩=some (bt v):=by have h:=iV.o.b.cell 2;rw[show tb (aK s i)=v from Dv.o] at h;exact h
 have d3:W.cell? ⟨g,3,none⟩=some (bx false):=by have h:=iV.o.b.cell 3;rw[jD.o] at h;exact h
 have d1:W.cell? ⟨g,1,none⟩=some (br bs (Y:Nat)):=by have h:=iV.o.b.cell 1;rw[a2.o] at h;exact h
 go_upto_region 13 with (first | (go_at_call 284;(with_reducible refine (yV.o _).mono ?_);rintro e w1 ⟨rfl,rfl⟩) | (go_at_call 55;(with_reducible refine (vH.o _).mono ?_);rintro e w1 ⟨rfl,rfl⟩) | (go_at_call 56;(with_reducible refine (Ig.o _).mono ?_);rintro e w1 ⟨rfl,rfl⟩));go_quiet (fail);obtain⟨W1,B⟩:=aH (W.drewN nq);have m:EG W W1:=by rw[B];exact (Below.refl _ _).drewN nq
 have yU:=qh (iV.o.below m);have CG:=qh (X.trans (Kp.of m));have Ag:=qh (mi.o.below m mi.o.lt);have a4:W.heap.size<=W1.heap.size:=m.size;rw[<- B];clear B m d1 d2 d3;have d0:W1.cell? ⟨g,0,none⟩=some (bt s):=yU.o.b.cell 0;go_wp2_with fail;have an:=HM.o.kp CG.o;rw[a0.o] at P;obtain⟨r2,O⟩:=af (sU s.data.toList.length t.tx x);have HC:=av.o W1 yU.o an;rw[O] at HC P;refine HC.mono ?_;clear HC O;cases r2 with
 | err k =>
  rintro e M ⟨rfl,f⟩;have L:R = .err k:=P.o;go_wp2_with fail;refine⟨rfl,?_⟩;rw[L];exact⟨rfl,CG.o.trans f⟩
 | ok es l1 =>
  rintro e M ⟨y,i2,bd,rfl,rfl,rfl,U,T,f⟩;have Uz:=qh U;obtain⟨aZ,aX,aA,ap,ao,ar,ab⟩:=U;rename_i I C D F bo;clear ao ar ab aZ aX aA ap;have Zk:(az y I C D F).toArray = (BC y I C D y.ar.length F):=rfl;rw[Zk];clear Zk;have a6:W1.heap.size<=M.heap.size:=f.size;have aE:=qh T;have ng:=qh (CG.o.trans f);have rD:=qh (Ag.o.kp f (by omega));clear T f;go_upto_region 16 with (fail);obtain⟨E,d⟩:=aH (M.alloc (.cells (BC y I C D y.ar.length F) 67 (0,0)));have Gn:=qh (show aP E g s i2 by rw[d];exact aE.o.alloc _);have qH:=qh (show Kp g w E by rw[d];exact ng.o.alloc _);have aw:ZB E w.heap.size:=by rw[d];exact rD.o.alloc _
  have am:ag E M.heap.size 67 (BC y I C D y.ar.length F):=by rw[d];exact ag.new M _ _
  have aL:=qh (show cO E (λ b=>W.heap.size<=b) E.heap.size y (az y I C D F) by
   rw[d];exact ((Uz.o.imp (q:=λ b=>W.heap.size<=b) (λ k hk _=>by omega)).keep (dI.of ((Below.refl _ _).alloc (bB _) _))).up (by simp))
  rw[<- d];clear d;obtain⟨iK,iL,iM,iQ,iR,iT,iU,iC⟩:=ag.c8 am;obtain⟨dM,jY,eQ,jZ,gW,oH,gX,oI,jM,yw,jO,yx,jP,yz,jQ,yA⟩:=ag.z8 aw;go_wp2_with fail;refine bodyPost_ret (v:=.agg (BC y I C D y.ar.length F)) (by simp[results,Tryz.results319,go_sem,dM,eQ,gW,gX,jM,jO,jP,jQ]) rfl ?_;rw[P.o];exact sO aL.o ak a3 Gn.o qH.o
theorem Kv (s:ByteArray) (L:List Tok) (j:∀ f,f.length<L.length->fE 255 .or s f):fE 319 .bK s L:=by
 intro g i w b e c;cases L with
 | nil=>exact OJ g s i w b c
 | cons t r =>
  by_cases a:t.touch=true
  .exact Ik g s i w b e t r c a
  have a:=bL.2 a;by_cases d:kY t.tx=true
  .exact Il g s i w b e t r c a d
  have d:=bL.2 d;by_cases OL:t.tx = [40]
  .exact Io g s i w b e t r c a OL (λ f h=>j f (by simp;omega))
  by_cases hn:nameB t.tx=true
  .by_cases hd:pF t r=true
   .by_cases hy:gy t.tx=0/\kZ t.tx=0/\t.tx≠yJ
    .exact Kt g s i w b e t r c a d OL hn hd hy.1 hy.2.1 hy.2.2
    .exact Ku g s i w b e t r c a d OL hn hd hy (λ f h=>j f (by simp;omega))
   .exact Ip g s i w b e t r c a d OL hn (bL.2 hd)
  .exact OM g s i w b e t r c a d OL (bL.2 hn)
structure aly (s:ByteArray) (m:Nat):Prop where
 or:∀ L,kK .or L<=m->fE 255 .or s L
 and:∀ L,kK .and L<=m->fE 271 .and s L
 not:∀ L,kK .not L<=m->fE 291 .not s L
 sum:∀ L,kK .sum L<=m->fE 304 .sum s L
 product:∀ L,kK .product L<=m->fE 314 .product s L
 minus:∀ L,kK .minus L<=m->fE 317 .minus s L
 bK:∀ L,kK .bK L<=m->fE 319 .bK s L
theorem TA (s:ByteArray):∀ m,aly s m
 | 0=>⟨λ L h=>by simp[kK,gK] at h,λ L h=>by simp[kK,gK] at h,λ L h=>by simp[kK,gK] at h,λ L h=>by simp[kK,gK] at h,λ L h=>by simp[kK,gK] at h,λ L h=>by simp[kK,gK] at h,λ L h=>by simp[kK,gK] at h⟩
 | m+1=>by
  have b:=TA s m;refine⟨λ L h=>?_,λ L h=>?_,λ L h=>?_,λ L h=>?_,λ L h=>?_,λ L h=>?_,λ L h=>?_⟩ <;> simp only[kK,gK] at h
  .exact ab4 s L (λ a c=>b.and a (by simp only[kK,gK];omega))
  .exact YY s L (λ a c=>b.not a (by simp only[kK,gK];omega))
  .exact Y2 s L (λ a c=>b.not a (by simp only[kK,gK];omega)) (λ a c=>b.sum a (by simp only[kK,gK];omega))
  .exact Y1 s L (λ a c=>b.product a (by simp only[kK,gK];omega))
  .exact Ko s L (λ a c=>b.minus a (by simp only[kK,gK];omega))
  .exact QQ s L (λ a c=>b.minus a (by simp only[kK,gK];omega)) (b.bK L (by simp only[kK,gK];omega))
  .exact Kv s L (λ a c=>b.or a (by simp only[kK,gK];omega))
theorem aeI (s:ByteArray) (L:List Tok):fE 255 .or s L:=(TA s (kK .or L)).or L (bB _)
structure St (w0:World) (b0 b1 b2:Nat) (a0:Array Value) (x1 x2:Value) (w:World):Prop where
 c0:ag w b0 67 a0
 c1:ag w b1 3 #[x1]
 c2:ag w b2 28 #[x2]
 os:w.os=w0.os
 tape:w.tape=w0.tape
 output:w.output=w0.output
 size:w0.heap.size<=w.heap.size
 far:∀ k,k<w0.heap.size->k≠b0->k≠b1->k≠b2->w.heap[k]?=w0.heap[k]?
theorem St.set0 {w0 w:World} {a b1 b2:Nat} {u0 u1 u2 u3 u4 u5 u6 u7 r s:Value} (h:St w0 a b1 b2 #[u0,u1,u2,u3,u4,u5,u6,u7] r s w) (z:a≠b1) (B:a≠b2) (d o f j m n l g:Value):St w0 a b1 b2 #[d,o,f,j,m,n,l,g] r s (kT w a d o f j m n l g):=by
 have b:∀ k,k≠a->(kT w a d o f j m n l g).heap[k]?=w.heap[k]?:=λ k A=>fF _ _ _ _ _ _ _ _ _ _ k A;have y:∀ (w':World) (i:Nat) (v:Value),(w'.setCell ⟨a,i,none⟩ v).os=w'.os:=λ _ _ _=>rfl;have x:∀ (w':World) (i:Nat) (v:Value),(w'.setCell ⟨a,i,none⟩ v).tape=w'.tape:=λ _ _ _=>rfl;have t:∀ (w':World) (i:Nat) (v:Value),(w'.setCell ⟨a,i,none⟩ v).output=w'.output:=λ _ _ _=>rfl;exact⟨Aa h.c0 d o f j m n l g,by (try unfold ZB);unfold ag;rw[b _ (λ e=>z e.symm)];exact h.c1,by (try unfold ZB);unfold ag;rw[b _ (λ e=>B e.symm)];exact h.c2,by simp only[kT,y];exact h.os,by simp only[kT,x];exact h.tape,by simp only[kT,t];exact h.output,by rw[jK];exact h.size,λ k u c p q=>by rw[b k c];exact h.far k u c p q⟩
theorem St.set1 {w0 w:World} {d b1 b2:Nat} {g:Array Value} {l i:Value} (h:St w0 d b1 b2 g l i w) (m:d≠b1) (o:b1≠b2) (v:Value):St w0 d b1 b2 g v i (w.setCell ⟨b1,0,none⟩ v):=by
 have a:∀ k,k≠b1->(w.setCell ⟨b1,0,none⟩ v).heap[k]?=w.heap[k]?:=λ k n=>Below.heap_setCell w ⟨b1,0,none⟩ v k n;exact⟨by (try unfold ZB);unfold ag;rw[a _ m];exact h.c0,by simpa using h.c1.dS 0 v,by (try unfold ZB);unfold ag;rw[a _ (λ e=>o e.symm)];exact h.c2,h.os,h.tape,h.output,by simp[World.setCell];exact h.size,λ k j c b f=>by rw[a k b];exact h.far k j c b f⟩
theorem St.set2 {w0 w:World} {d b1 b2:Nat} {f:Array Value} {g l:Value} (h:St w0 d b1 b2 f g l w) (j:d≠b2) (n:b1≠b2) (v:Value):St w0 d b1 b2 f g v (w.setCell ⟨b2,0,none⟩ v):=by
 have a:∀ k,k≠b2->(w.setCell ⟨b2,0,none⟩ v).heap[k]?=w.heap[k]?:=λ k m=>Below.heap_setCell w ⟨b2,0,none⟩ v k m;exact⟨by (try unfold ZB);unfold ag;rw[a _ j];exact h.c0,by (try unfold ZB);unfold ag;rw[a _ n];exact h.c1,by simpa using h.c2.dS 0 v,h.os,h.tape,h.output,by simp[World.setCell];exact h.size,λ k i c e b=>by rw[a k b];exact h.far k i c e b⟩
theorem St.below {w0 w w':World} {j b1 b2:Nat} {e:Array Value} {f i:Value} (h:St w0 j b1 b2 e f i w) (a:EG w w'):St w0 j b1 b2 e f i w':=
 ⟨h.c0.below a h.c0.lt,h.c1.below a h.c1.lt,h.c2.below a h.c2.lt,a.os.trans h.os,a.tape.trans h.tape,a.output.trans h.output,Nat.le_trans h.size a.size,λ k g b d c=>(a.block k (Nat.lt_of_lt_of_le g h.size)).trans (h.far k g b d c)⟩
theorem St.toBelow {w0 w:World} {a b1 b2 B:Nat} {b:Array Value} {c d:Value} (h:St w0 a b1 b2 b c d w) (e:B<=w0.heap.size) (g:B<=a) (f:B<=b1) (j:B<=b2):Below B w0 w:=
 ⟨h.os,h.tape,h.output,h.size,λ k i=>h.far k (by omega) (by omega) (by omega) (by omega)⟩
theorem Jj (w:World) (b0 b1 b2 k:Nat) (c:b0≠b1) (d:b0≠b2) (f:b1≠b2) (u0 u1 u2 u3 u4 u5 u6 u7 x1 x2:Value) (a:List PanicEntry) (h:St w b0 b1 b2 #[u0,u1,u2,u3,u4,u5,u6,u7] x1 x2 w) :
  CallsD Tryz.prog 253 #[bw (some ⟨b0,0,none⟩),bw (some ⟨b1,0,none⟩),bw (some ⟨b2,0,none⟩)] (.panicking ({ v:=.iface 342 (.agg #[br bs (k:Nat)]),recovered:=false } :: a)) w λ e x w' =>
   e = bA (.tuple #[])/\x = .panicking ({ v:=.iface 342 (.agg #[br bs (k:Nat)]),recovered:=true } :: a)/\St w b0 b1 b2 #[br bs 0,br bs 0,bt ⟨#[]⟩,br bs 0,br bs 0,bt ⟨#[]⟩,bv none 0 0,bv none 0 0] (br bs (k:Nat)) (br bs 10) w':=by
 have o:∀ (v:Value) (W:World),(Instr.typeAssert (.iface 342 v) 20 342 true).run Tryz.prog W = .ok (.tuple #[v,bx true]) W:=λ _ _=>by kernel_rfl
 have g:=qh h;clear h;refine callsD_of_wpS Tryz.func253 rfl λ A cs p=>?_;apply wpS_seq;apply wpS_region;simp[wpOpsS,go_sem,recoverD,p,Tryz.ntmps253,Exit.thenS];refine wpS_of_wp ?_;simp only[show (Array.replicate 17 undef:Array Value) = #[undef,undef,undef,undef,undef,undef,undef,undef,undef,undef,undef,undef,undef,undef,undef,undef,undef] from rfl,List.setIfInBounds_toArray,List.set_cons_zero,List.set_cons_succ,List.append_toArray,List.cons_append,List.nil_append];have B0:=g.o.c0;have B1:=g.o.c1;have B2:=g.o.c2;have l:w.heap.size≠b0:=by have:=B0.lt;omega
 have m:w.heap.size≠b1:=by have:=B1.lt;omega
 have y:w.heap.size≠b2:=by have:=B2.lt;omega
 go_upto_region 5 with (fail);obtain⟨W,i⟩:=aH (w.alloc (.cells #[br bs (k:Nat)] 342 (0,0)));have b:=qh (show St w b0 b1 b2 #[u0,u1,u2,u3,u4,u5,u6,u7] x1 x2 W by rw[i];exact g.o.below ((Below.refl _ _).alloc (bB _) _));have r:ag W w.heap.size 342 #[br bs (k:Nat)]:=by rw[i];exact ag.new w _ _
 have s:W.cell? ⟨w.heap.size,0,none⟩=some (br bs (k:Nat)):=r.cell 0;rw[<- i];clear i B0 B1 B2;have B0:=b.o.c0;have B1:=b.o.c1;have B2:=b.o.c2;obtain⟨O,N,J,K,G,B,I,L,P,M,H,F,z,C,E,D⟩:=ag.z8 B0;have q:W.cell? ⟨b1,0,none⟩=some x1:=B1.cell 0;have u:W.frozen? ⟨b1,0,none⟩=false:=B1.frozen 0;have n:W.cell? ⟨b2,0,none⟩=some x2:=B2.cell 0;have t:W.frozen? ⟨b2,0,none⟩=false:=B2.frozen 0;go_region;have j:=qh ((((b.o.set0 c d (br bs 0) (br bs 0) (bt ⟨#[]⟩) (br bs 0) (br bs 0) (bt ⟨#[]⟩) (bv none 0 0) (bv none 0 0)).set1 c f (br bs (k:Nat))).set2 d f (br bs 10)).below (Below.refl _ _).drew);go_wp2_with fail;exact⟨rfl,_,rfl,.tuple #[],by simp[results,Tryz.results253,go_sem],rfl,rfl,j.o⟩
theorem Zl (f b c:Addr) (w:World) :
  CallsD Tryz.prog 253 #[bw (some f),bw (some b),bw (some c)] .returning w λ e g w'=>e = bA (.tuple #[])/\g = .returning/\w'=w:=by
 refine callsD_of_wpS Tryz.func253 rfl λ a cs d=>?_;apply wpS_seq;apply wpS_region;simp[wpOpsS,go_sem,recoverD,d,Tryz.ntmps253,Exit.thenS];refine wpS_of_wp ?_;simp only[show (Array.replicate 17 undef:Array Value) = #[undef,undef,undef,undef,undef,undef,undef,undef,undef,undef,undef,undef,undef,undef,undef,undef,undef] from rfl,List.setIfInBounds_toArray,List.set_cons_zero,List.set_cons_succ,List.append_toArray,List.cons_append,List.nil_append];go_wp2_with fail;cases a;simp_all[bodyPostS,results,Tryz.results253]
end Go.Proofs.YtcnagconagpkcaaGreatDoor
namespace Go.Proofs.YtcnagconagpkcaaGreatDoor
open Go.RowKit Vtx
theorem Zm (g:Nat) (s:ByteArray) (A:Nat) (u:ByteArray) (d0:Bool) (w:World) (hb:ag w g 346 #[bt s,br bs (A:Nat),bt u,bx d0]) (b:A+u.size<=s.size) (V:s.size<=4000) :
  Calls Tryz.prog 254 #[bw (some ⟨g,0,none⟩)] w λ e w'=>e = bA (.tuple #[])/\aP w' g s (A+u.size)/\Kp g w w':=by
 have S:=qh hb;obtain⟨E,hE⟩:=af (A+u.size);rw[hE] at b ⊢;have k:E<=E/\E<=s.size:=⟨bB _,b⟩;obtain⟨J,hJ⟩:=aH (E+bJ bC (s.data.toList.drop E));have al:J<=s.size:=by
  have h1:=qN bC (s.data.toList.drop E);rw[List.length_drop,aT] at h1;omega
 obtain⟨T,hT⟩:=af (fV s E);have X:=qh hJ;have P:=qh hT;have i:w.cell? ⟨g,0,none⟩=some (bt s):=S.o.cell 0;have M:w.cell? ⟨g,1,none⟩=some (br bs (A:Nat)):=S.o.cell 1;have B:w.cell? ⟨g,2,none⟩=some (bt u):=S.o.cell 2;have L:((A:Nat):Int)+(u.size:Nat)=(E:Nat):=by omega
 have aa:IntKind.i64.wrap (((A:Nat):Int)+(u.size:Nat))=(E:Nat):=by rw[L];exact bN _ (by omega)
 clear hJ hT hE hb b;go_enter Tryz.func254,Tryz.ntmps254;go_upto_region 0 with (fail);go_quiet (fail);obtain⟨W,O⟩:=aH (w.drewN nq);have G:=qh (show Kp g w W by rw[O];exact Tm (zY g w) nq);have y:=qh (show ag W g 346 #[bt s,br bs (A:Nat),bt u,bx d0] by rw[O];exact S.o.drewN nq);rw[<- O];clear i M B O L aa;have i:W.cell? ⟨g,0,none⟩=some (bt s):=y.o.cell 0;have z3:W.frozen? ⟨g,3,none⟩=false:=y.o.frozen 3;have c3:W.cell? ⟨g,3,none⟩=some (bx d0):=y.o.cell 3;go_wp2_with fail
 go_loop [3] (λ x=>∃ n:Nat,E<=n/\n<=s.size/\x = br bs n/\Hid (J=n+bJ bC (s.data.toList.drop n))) (λ x=>s.size - (intOf x).toNat)
 case atStart=>exact⟨E,bB _,k.2,rfl,X⟩
 case round =>
  obtain⟨n,am,hn,rfl,HR⟩:=hrel;by_cases hlt:n<s.size
  .have aX:=qh hlt;by_cases h32:s[n].toNat=32
   .have HG:=qh (mG hlt (show bC s[n]=true from decide_eq_true ((toNat_eq s[n] 32 (by decide)).2 h32)) HR.o);have b1:((s[n].toNat:Int) == 32)=true:=by simp;omega
    clear h32;go_wp2_with fail
    go_round
    case rel=>exact⟨n+1,by omega,aX.o,by go_num,HG⟩
    case measure =>
     have:=aX.o;simp[intOf];omega
   .have I:=nV hlt (show bC s[n]=false from decide_eq_false (λ e=>h32 ((toNat_eq s[n] 32 (by decide)).1 e))) HR.o;have b1:((s[n].toNat:Int) == 32)=false:=by simp;omega
    obtain⟨f,z,H⟩:=Oh X.o (by rw[I];exact hlt);subst I;have Dv:=qh (P.o.symm.trans H);have C:=qh (And.intro f z);clear h32 f z H;go_upto_region 4 with (fail);go_cut [3] (λ x wc=>x = br bs (J:Nat)/\wc=W.setCell ⟨g,3,none⟩ (bx T))
    case first =>
     by_cases hJE:J=E
     .subst hJE;have m:(((J:Nat):Int) == ((J:Nat):Int))=true:=by simp
      by_cases b:0<J
      .have ae:J - 1<s.size:=by omega
       obtain⟨b1,p⟩:=af (gY s[J - 1]);obtain⟨b2,o⟩:=af (gY (s[J]'hlt));have q:=qh (show T=(b1 && b2) by rw[Dv.o,lN ae,lN hlt,p,o,decide_eq_true b];simp);have l:=qh (show Calls Tryz.prog 57 #[.int .u8 (s[J - 1].toNat:Nat)] W λ e c=>e = bA (bx b1)/\W=c from by
        exact (ji s[J - 1] W).mono λ e c ⟨U,hw⟩=>⟨U.trans (congrArg (λ x=>bT (bx x)) p),hw⟩)
       have D:=qh (show Calls Tryz.prog 57 #[.int .u8 ((s[J]'hlt).toNat:Nat)] W λ e c=>e = bA (bx b2)/\W=c from by
        exact (ji (s[J]'hlt) W).mono λ e c ⟨U,hw⟩=>⟨U.trans (congrArg (λ x=>bT (bx x)) o),hw⟩)
       have F:((J:Nat):Int) - 1=((J - 1:Nat):Int):=by omega
       have aq:IntKind.i64.wrap (((J:Nat):Int) - 1)=((J - 1:Nat):Int):=by rw[F];exact bN _ (by omega)
       have ab:(0:Int)<((J:Nat):Int):=by omega
       clear p o F;cases b1
       .go_wp2_with (go_at_call 57;(with_reducible refine l.o.mono ?_);rintro e v ⟨rfl,rfl⟩)
        go_meet
        exact⟨rfl,by rw[q.o];rfl⟩
       .cases b2
        .go_wp2_with (first | (go_at_call 57;(with_reducible refine l.o.mono ?_);rintro e v ⟨rfl,rfl⟩) | (go_at_call 57;(with_reducible refine D.o.mono ?_);rintro e v ⟨rfl,rfl⟩))
         go_meet
         exact⟨rfl,by rw[q.o];rfl⟩
        .go_wp2_with (first | (go_at_call 57;(with_reducible refine l.o.mono ?_);rintro e v ⟨rfl,rfl⟩) | (go_at_call 57;(with_reducible refine D.o.mono ?_);rintro e v ⟨rfl,rfl⟩))
         go_meet
         exact⟨rfl,by rw[q.o];rfl⟩
      .have q:=qh (show T=false by rw[Dv.o,decide_eq_false b];simp);have ad:¬ (0:Int)<((J:Nat):Int):=by omega
       go_wp2_with fail
       go_meet
       exact⟨rfl,by rw[q.o]⟩
     .have q:=qh (show T=false by rw[Dv.o,decide_eq_false hJE];simp);have m:(((J:Nat):Int) == ((E:Nat):Int))=false:=by simp;omega
      have ac:(J == E)=false:=by simp;omega
      go_wp2_with fail
      go_meet
      exact⟨rfl,by rw[q.o]⟩
    case rest =>
    obtain⟨rfl,rfl⟩:=hcut;have t:=abW y.o (bx T);obtain⟨d,j⟩:=aH (W.setCell ⟨g,3,none⟩ (bx T));have Z:=qh (show Kp g w d by rw[j];exact G.o.set 3 _);rw[<- j] at t;have a:=qh t;rw[<- j];clear t j i z3 c3;have i:d.cell? ⟨g,0,none⟩=some (bt s):=a.o.cell 0;have M:d.cell? ⟨g,1,none⟩=some (br bs (A:Nat)):=a.o.cell 1;have B:d.cell? ⟨g,2,none⟩=some (bt u):=a.o.cell 2;have z1:d.frozen? ⟨g,1,none⟩=false:=a.o.frozen 1;have z2:d.frozen? ⟨g,2,none⟩=false:=a.o.frozen 2;have hL:=yI (s.data.toList.drop J);rw[List.length_drop,aT] at hL;obtain⟨N,Y⟩:=af (J+dA (s.data.toList.drop J));have HN:=qh Y;have ao:(0:Int)<=((J:Nat):Int):=by omega
    have an:((J:Nat):Int)<=((N:Nat):Int):=by omega
    have av:((N:Nat):Int)<=((s.size:Nat):Int):=by omega
    have ak:J<=N:=by omega
    have ap:N<=s.size:=by omega
    have Vp:((J:Nat):Int)<((s.size:Nat):Int):=by omega
    have FI:=qh (λ (w':World) (hc:w'.cell? ⟨g,0,none⟩=some (bt s))=>(show Calls Tryz.prog 269 #[bw (some ⟨g,0,none⟩),br bs (J:Nat)] w' λ e c=>e = bA (br bs (N:Nat))/\w'=c from by
     have h:=Du g s J w' hc hlt V
     rwa [Y] at h))
    clear hL Y;go_upto_region 7 with (fail);obtain⟨K,R⟩:=aH ((d.setCell ⟨g,1,none⟩ (br bs (J:Nat))).setCell ⟨g,2,none⟩ (bt ⟨#[]⟩));have Q:=qh (show ag K g 346 #[bt s,br bs (J:Nat),bt ⟨#[]⟩,bx T] by rw[R];exact Vo (abX a.o _) _);have Ib:=qh (show Kp g w K by rw[R];exact (Z.o.set 1 _).set 2 _);rw[<- R];clear R i M B z1 z2;have i:K.cell? ⟨g,0,none⟩=some (bt s):=Q.o.cell 0;have B:K.cell? ⟨g,2,none⟩=some (bt ⟨#[]⟩):=Q.o.cell 2;have z2:K.frozen? ⟨g,2,none⟩=false:=Q.o.frozen 2;go_region_with (go_at_call 269;(with_reducible refine (FI.o _ (by simpa using i)).mono ?_);rintro e v ⟨rfl,rfl⟩)
    all_goals
     go_wp2_with fail;go_end0;refine⟨rfl,⟨?_,k.2,V⟩,(Ib.o.set 2 _).trans (Kp.of (Below.refl _ _).drew)⟩;rw[C.o.1,C.o.2,P.o,<- QE,HN.o];exact (Vo Q.o _).drew
  .have I:=qw hlt HR.o;obtain⟨f,z,H⟩:=Oi X.o (by rw[I];exact hlt);have r:n=s.size:=by omega
   subst I;have WL:=qh (P.o.symm.trans H);have C:=qh (And.intro (f.trans r.symm) z);have ar:=qh r;have Vp:¬ ((J:Nat):Int)<((s.size:Nat):Int):=by omega
   clear f z H r;go_upto_region 4 with (fail);go_cut [3] (λ x wc=>x = br bs (J:Nat)/\wc=W.setCell ⟨g,3,none⟩ (bx T))
   case first =>
    by_cases hJE:J=E
    .subst hJE;have m:(((J:Nat):Int) == ((J:Nat):Int))=true:=by simp
     by_cases b:0<J
     .have ab:(0:Int)<((J:Nat):Int):=by omega
      go_wp2_with fail
      go_meet
      exact⟨rfl,by rw[WL.o]⟩
     .have ad:¬ (0:Int)<((J:Nat):Int):=by omega
      go_wp2_with fail
      go_meet
      exact⟨rfl,by rw[WL.o]⟩
    .have m:(((J:Nat):Int) == ((E:Nat):Int))=false:=by simp;omega
     have ac:(J == E)=false:=by simp;omega
     go_wp2_with fail
     go_meet
     exact⟨rfl,by rw[WL.o]⟩
   case rest =>
   obtain⟨rfl,rfl⟩:=hcut;have t:=abW y.o (bx T);obtain⟨d,j⟩:=aH (W.setCell ⟨g,3,none⟩ (bx T));have Z:=qh (show Kp g w d by rw[j];exact G.o.set 3 _);rw[<- j] at t;have a:=qh t;rw[<- j];clear t j i z3 c3;have i:d.cell? ⟨g,0,none⟩=some (bt s):=a.o.cell 0;have M:d.cell? ⟨g,1,none⟩=some (br bs (A:Nat)):=a.o.cell 1;have B:d.cell? ⟨g,2,none⟩=some (bt u):=a.o.cell 2;have z1:d.frozen? ⟨g,1,none⟩=false:=a.o.frozen 1;have z2:d.frozen? ⟨g,2,none⟩=false:=a.o.frozen 2;go_wp2_with fail;go_end0;refine⟨rfl,⟨?_,k.2,V⟩,(Z.o.set 1 _).set 2 _⟩;rw[C.o.1,C.o.2,P.o];exact Vo (abX a.o _) _
end Go.Proofs.YtcnagconagpkcaaGreatDoor
