/- Lemmas. -/
import Derived.Test.YtcnagconagpkcaaGreatDoorZ14
import Derived.Laws.BytesArg
import Derived.Lib.Bytes
open Go.Value renaming int->bk, string->bm, slice->bn, pointer->bp, bool->bq
open Go.IntKind renaming i64->bl
open Nat renaming le_refl->br, zero_le->bz
open UInt8 renaming toNat_inj->bt
open Go.World renaming news_of_block->bv
open List renaming mem_singleton->bw, length_append->bx, dropWhile_cons->bA, drop_eq_nil_of_le->bB, length_eq_zero_iff->bE
set_option maxHeartbeats 8000000
set_option maxRecDepth 100000
namespace Go.Proofs.YtcnagconagpkcaaGreatDoor
open Tryz
open Tryz renaming prog->lM
section
open Go.RowKit Vtx
attribute [local go_sem ↓] Go.wp_at_zero Go.wp_at_succ
theorem ac7 (g:Nat) (s:ByteArray) (i:Nat) (w:World) (hp:bI w g s i) (hm:TM w g) (t u:Tok) (r:List Tok) (hL:wordsOf s.data.toList i=t :: u :: r) (hu:u.tx = [40]) (ho:gz t.tx=0) (U:kL t.tx≠0) (hP:∀ L',L'.length<=r.length->fE 255 .or s L') :
  Calls lM 324 #[bp (some ⟨g,0,none⟩),bm (tb t.tx)] w λ e w'=>Rh w g s (qF s.data.toList.length t.tx r) e w':=by
 have zk:=qh hp;have HM:=qh hm;have aq:=hp.b.lt;have bd:=hp.s;have E:=lS hL;have y:=lS E.2.symm;obtain⟨i1,Q⟩:=af (t.at_+t.tx.length);obtain⟨ea,et,eh⟩:=nU E.1;have aE:=qh (show bD s i+(bH s i).length=i1 by rw[ea,et,Q]);rw[Q] at E y;have p:=FK y.1 hu (by decide);have ar:=qh (show lG (wordsOf s.data.toList i1) [40]=true by rw[<- E.2];simp[lG,p,hu]);obtain⟨i2,P⟩:=af (bD s i1+(bH s i1).length);have aR:=qh P;have ap:=qh (show wordsOf s.data.toList i2=r by
  obtain⟨aw,ay,-⟩:=nU y.1;rw[<- P,aw,ay];exact y.2.symm)
 obtain⟨x,hx⟩:=af (t.tx);obtain⟨R,hR⟩:=af (qF s.data.toList.length t.tx r);rw[hR];rw[hx] at hR ⊢;obtain⟨v,T⟩:=af (tb x);have HV:=qh T;have OI:=qh (λ w'=>T▸ug x w');have OJ:=qh (λ w'=>T▸zx x w');have C:=qh hR;have Hq:=qh hP;rw[T];rw[hx] at ho U;clear hR Q P ea et eh E y p hL hu hp hm hP;obtain⟨op,G⟩:=af (kL x);have ad:=(afx x).1;rw[G] at U ad;have Zw:(v.toList == (⟨#[114,111,119]⟩:ByteArray).toList)=false:=dV (λ e=>by
  have e2:x=AZ:=by rw[<- jf x,T,e];rfl
  subst e2;exact U (G▸row_zero.2))
 have bs:(v.toList == [114,111,119])=false:=by simpa using Zw
 clear Zw;have bo:(op == 0)=false:=by simp[U]
 have a4:(0:Int)<op:=by omega
 have C:=qh (show R=(Pz s.data.toList.length (.args op) [] r).bind λ D l1=>dG s.data.toList.length [41] l1 λ l2=>.ok [jF op D] l2 by rw[<- C.o];unfold qF;rw[if_neg (λ h=>h ho),G,if_pos U]);have Zx:=qh ho;have Zy:=qh G;clear ho U ad T hx G;go_enter func324,ntmps324;go_upto_region 1 with (fail);obtain⟨W,hW,Y,BR,a2,bb,-⟩:=mV g w;have ny:=qh (show bI W g s i by rw[hW];exact zk.o.alloc _);have xK:=qh (HM.o.kp Y);have jT:=qh BR;rw[<- hW];clear hW BR;go_wp2_with fail;refine (OI.o W).mono ?_;rintro e wa ⟨rfl,S⟩;rw[Zx.o];go_wp2_with fail;refine (OJ.o wa).mono ?_;rintro e wb ⟨rfl,ae⟩;rw[Zy.o];have z:DD W wb:=S.trans (ae.mono S.size);have aD:=qh (ny.o.below z);have aV:=qh (Y.trans (Kp.of z));have Zz:=qh (jT.o.below z jT.o.lt);have a6:=z.size;clear S ae z;have J6:=qh (next_any g s i wb aD.o);rw[aE.o] at J6;go_wp2_with (go_at_call 254;(with_reducible refine J6.o.mono ?_);rintro e w2 ⟨rfl,X,n⟩;have ak:=qh X;have a8:=qh n);have FX:=take_any g s i1 w2 ak.o [40] (by decide);rw[aR.o,show tb [40]=⟨#[40]⟩ from rfl] at FX;refine FX.mono ?_;intro e F f;rw[ar.o,if_pos rfl] at f;obtain⟨rfl,ab,J⟩:=f;have CZ:=qh ab;have Bj:=qh ((aV.o.trans n).trans J);have FV:=qh ((Zz.o.kp n (by omega)).kp J (by omega));have a1:W.heap.size<=F.heap.size:=by have h1:=n.size;have h2:=J.size;omega
 clear FX X n ab J;go_upto_region 8 with (fail);obtain⟨K,j⟩:=aG (F.alloc (.cells #[bk bl 3,bk bl 0,bm ⟨#[]⟩,bk bl 0,bk bl 0,bm ⟨#[]⟩,bn none 0 0,bn none 0 0] 67 (0,0)));have ZA:=qh (show bI K g s i2 by rw[j];exact CZ.o.alloc _);have yx:=qh (show Kp g w K by rw[j];exact Bj.o.alloc _);have OL:=qh (show ZB K w.heap.size by rw[j];exact FV.o.alloc _);have ZC:=qh (show ah K F.heap.size 67 #[bk bl 3,bk bl 0,bm ⟨#[]⟩,bk bl 0,bk bl 0,bm ⟨#[]⟩,bn none 0 0,bn none 0 0] by rw[j];exact ah.new F _ _);have OG:K.heap.size=F.heap.size+1:=by rw[j];simp
 rw[<- j];clear j;go_wp2_with fail;have HC:=H9 g s i2 K ZA.o (HM.o.kp yx.o) op r ap.o Hq.o;obtain⟨r2,ac⟩:=af (Pz s.data.toList.length (.args op) [] r);rw[ac] at HC C;refine HC.mono ?_;have bj:g<F.heap.size:=CZ.o.b.lt;clear HC ac;cases r2 with
 | err k =>
  rintro e w4 ⟨rfl,m⟩;have d:R = .err k:=C.o;go_wp2_with fail;refine⟨rfl,?_⟩;rw[d];exact⟨rfl,yx.o.trans m⟩
 | ok D l2 =>
  rintro e w4 ⟨M,css,A,c,rfl,rfl,Z,O,a5,tZ,m⟩;have ag:=qh (show R=dG s.data.toList.length [41] (wordsOf s.data.toList M) λ l=>.ok [jF op D] l from C.o);have aZ:=qh ((FT (B:=K.heap.size) op Z (λ k hk=>hk) O (by unfold maxLen;omega)).imp (q:=λ b=>F.heap.size<b) (λ k hk _=>by omega));have V:=qh (ZC.o.kp m (by omega));have VV:=qh (OL.o.kp m (by omega));have Dw:=qh tZ;have pK:=qh (yx.o.trans m);have ba:K.heap.size<=w4.heap.size:=m.size;clear Z O tZ m;go_wp2_with fail;refine (gG op A D.length c w4).mono ?_;rintro e w5 ⟨rfl,a⟩;have a0:w4.heap.size<=w5.heap.size:=a.size;have B5:=V.o.below a V.o.lt;have wW:=qh B5;have av:=qh (VV.o.below a VV.o.lt);have CY:=qh (Dw.o.below a);have vS:=qh (pK.o.trans (Kp.of a));have al:=qh ((aZ.o.keep (aK.of a)).up a.size);clear a;obtain⟨qi,bh,qW,be,xE,bc,zX,bf,zY,a3,zZ,a9,Aa,bi,Ac,a7⟩:=ah.z8 B5;go_wp2_with fail;obtain⟨N,H⟩:=aG (kR w5 F.heap.size (bk bl 4) (bk bl op) (bm ⟨#[]⟩) (bk bl 0) (bk bl 0) (bm ⟨#[]⟩) (bn none 0 0) (bn A D.length c));have ZF:=qh (show ah N F.heap.size 67 #[bk bl 4,bk bl op,bm ⟨#[]⟩,bk bl 0,bk bl 0,bm ⟨#[]⟩,bn none 0 0,bn A D.length c] by rw[H];exact zq wW.o _ _ _ _ _ _ _ _);have an:=qh (show bI N g s M by rw[H];exact CY.o.kp (eG _ _ _ _ _ _ _ _ _ _ g (by omega)));have aa:=qh (show Kp g w N by rw[H];exact tX vS.o (by omega) _ _ _ _ _ _ _ _);have ZG:=qh (show ZB N w.heap.size by
   rw[H]
   (try unfold ZB);unfold ah
   rw[eG _ _ _ _ _ _ _ _ _ _ _ (by omega)];exact av.o)
  have am:=qh (show bY N (λ b=>F.heap.size<b) N.heap.size (jF op D) (aA (jF op D) none 0 A c) by rw[H];exact DZ al.o (λ k hk=>by omega) _ _ _ _ _ _ _ _);have bg:N.heap.size=w5.heap.size:=by rw[H,jl]
  dsimp only[kR] at H;rw[<- H];clear H B5;have uh:=take_any g s M N an.o [41] (by decide);obtain⟨i6,LZ⟩:=af (bD s M+(bH s M).length);have I:=λ h=>jL (s:=s) (i:=M) (word:=[41]) h;rw[show tb [41]=⟨#[41]⟩ from rfl,LZ] at uh;rw[LZ] at I;refine uh.mono ?_;intro e w8 f;obtain⟨b5,a⟩:=af (lG (wordsOf s.data.toList M) [41]);rw[a] at f;cases b5
  .rw[if_neg (by decide)] at f;obtain⟨rfl,rfl⟩:=f;have d:R = .err (bD s M):=by rw[ag.o];unfold dG;rw[if_neg (by rw[a];decide),kY]
   have qP:=qh d;clear d uh I LZ;go_wp2_with fail;refine⟨rfl,?_⟩;rw[qP.o];exact⟨rfl,aa.o⟩
  .rw[if_pos rfl] at f;obtain⟨rfl,ZH,o⟩:=f;have d:R = .ok [jF op D] (wordsOf s.data.toList i6):=by rw[ag.o];unfold dG;rw[if_pos a,<- (I a).1]
   have qP:=qh d;have ax:=qh (am.o.kpq o (λ k hk=>by omega));have ao:=qh ZH;have aM:=qh (aa.o.trans o);have B8:=ZF.o.kp o (by omega);have aL:=ZG.o.kp o (by omega);clear d uh I LZ a ZH o;obtain⟨iE,iF,iG,iH,iI,iJ,iK,gX⟩:=ah.c8 B8;obtain⟨fK,lD,gJ,lF,jC,rD,jD,rE,nJ,IV,nK,IW,nM,IX,nN,IY⟩:=ah.z8 aL;go_wp2_with fail;refine bodyPost_ret (v:=.tuple #[.agg #[bk bl 4,bk bl op,bm ⟨#[]⟩,bk bl 0,bk bl 0,bm ⟨#[]⟩,bn none 0 0,bn A D.length c],bq true]) (by simp[results,results324,go_sem,fK,gJ,jC,jD,nJ,nK,nM,nN]) rfl ?_;rw[qP.o];exact Zv (L:=F.heap.size) (x:=jF op D) (A:=none) (c:=0) (A':=A) (c':=c) ax.o (by omega) aq ao.o aM.o
theorem ZI (g:Nat) (s:ByteArray) (i:Nat) (w:World) (hp:bI w g s i) (hm:TM w g) (t u:Tok) (r:List Tok) (hL:wordsOf s.data.toList i=t :: u :: r) (hu:u.tx = [40]) (Y:t.tx=AZ) (hP:∀ L',L'.length<=r.length->fE 255 .or s L') :
  Calls lM 324 #[bp (some ⟨g,0,none⟩),bm (tb t.tx)] w λ e w'=>Rh w g s (qF s.data.toList.length t.tx r) e w':=by
 have zk:=qh hp;have HM:=qh hm;have an:=hp.b.lt;have aq:=hp.s;have D:=lS hL;have q:=lS D.2.symm;obtain⟨i1,K⟩:=af (t.at_+t.tx.length);obtain⟨ea,et,eh⟩:=nU D.1;have aE:=qh (show bD s i+(bH s i).length=i1 by rw[ea,et,K]);rw[K] at D q;have p:=FK q.1 hu (by decide);have ao:=qh (show lG (wordsOf s.data.toList i1) [40]=true by rw[<- D.2];simp[lG,p,hu]);obtain⟨i2,J⟩:=af (bD s i1+(bH s i1).length);have aR:=qh J;have Z:=qh (show wordsOf s.data.toList i2=r by
  obtain⟨ar,ay,-⟩:=nU q.1;rw[<- J,ar,ay];exact q.2.symm)
 obtain⟨x,hx⟩:=af (t.tx);obtain⟨R,hR⟩:=af (qF s.data.toList.length t.tx r);rw[hR];rw[hx] at hR ⊢;obtain⟨v,T⟩:=af (tb x);have HV:=qh T;have OI:=qh (λ w'=>T▸ug x w');have OJ:=qh (λ w'=>T▸zx x w');have G:=qh hR;have Hq:=qh hP;rw[T];rw[hx] at Y;clear hR K J ea et eh D q p hL hu hp hm hP;subst Y;have Zw:(v.toList == (⟨#[114,111,119]⟩:ByteArray).toList)=true:=kH (by rw[<- T];rfl);have bs:(v.toList == [114,111,119])=true:=by simpa using Zw
 clear Zw;have G:=qh (show R=(match nameAt r with
  | none=>.err (oZ s.data.toList.length r)
  | some nm=>dG s.data.toList.length [41] r.tail λ l1=>.ok [iy 3 0 nm []] l1) by rw[<- G.o];unfold qF;rw[if_neg (λ h=>h row_zero.1),if_neg (λ h=>h row_zero.2)];cases nameAt r <;> rfl)
 have Zx:=qh row_zero.1;have Zy:=qh row_zero.2;clear T;go_enter func324,ntmps324;go_upto_region 1 with (fail);obtain⟨W,hW,V,BR,a0,a7,-⟩:=mV g w;have ny:=qh (show bI W g s i by rw[hW];exact zk.o.alloc _);have xK:=qh (HM.o.kp V);have jT:=qh BR;rw[<- hW];clear hW BR;go_wp2_with fail;refine (OI.o W).mono ?_;rintro e wa ⟨rfl,P⟩;rw[Zx.o];go_wp2_with fail;refine (OJ.o wa).mono ?_;rintro e wb ⟨rfl,ac⟩;rw[Zy.o];have y:DD W wb:=P.trans (ac.mono P.size);have aD:=qh (ny.o.below y);have aV:=qh (V.trans (Kp.of y));have Zz:=qh (jT.o.below y jT.o.lt);have a2:=y.size;clear P ac y;have J6:=qh (next_any g s i wb aD.o);rw[aE.o] at J6;go_wp2_with (go_at_call 254;(with_reducible refine J6.o.mono ?_);rintro e w2 ⟨rfl,U,n⟩;have ae:=qh U;have a4:=qh n);have FX:=take_any g s i1 w2 ae.o [40] (by decide);rw[aR.o,show tb [40]=⟨#[40]⟩ from rfl] at FX;refine FX.mono ?_;intro e m d;rw[ao.o,if_pos rfl] at d;obtain⟨rfl,ab,H⟩:=d;have CZ:=qh ab;have Bj:=qh ((aV.o.trans n).trans H);have FV:=qh ((Zz.o.kp n (by omega)).kp H (by omega));have aZ:W.heap.size<=m.heap.size:=by have h1:=n.size;have h2:=H.size;omega
 clear FX U n ab H;go_upto_region 8 with (fail);obtain⟨M,f⟩:=aG (m.alloc (.cells #[bk bl 3,bk bl 0,bm ⟨#[]⟩,bk bl 0,bk bl 0,bm ⟨#[]⟩,bn none 0 0,bn none 0 0] 67 (0,0)));have ZA:=qh (show bI M g s i2 by rw[f];exact CZ.o.alloc _);have yx:=qh (show Kp g w M by rw[f];exact Bj.o.alloc _);have OL:=qh (show ZB M w.heap.size by rw[f];exact FV.o.alloc _);have ZC:=qh (show ah M m.heap.size 67 #[bk bl 3,bk bl 0,bm ⟨#[]⟩,bk bl 0,bk bl 0,bm ⟨#[]⟩,bn none 0 0,bn none 0 0] by rw[f];exact ah.new m _ _);have OG:M.heap.size=m.heap.size+1:=by rw[f];simp
 rw[<- f];clear f;go_wp2_with fail;refine (Oy g s i2 M ZA.o).mono ?_;intro e I X;unfold ac0 at X;rw[Z.o] at X;obtain⟨N,hN⟩:=af (nameAt r);rw[hN] at X;have HN:=qh hN;have be:g<m.heap.size:=CZ.o.b.lt;cases N with
 | none =>
  obtain⟨rfl,rfl⟩:=X;have a:R = .err (oZ s.data.toList.length r):=by rw[G.o,HN.o]
  go_wp2_with fail;refine⟨rfl,?_⟩;rw[a];exact⟨rfl,yx.o⟩
 | some nm =>
  obtain⟨Q,rfl,ZE,tZ,E⟩:=X;have av:=OH (s:=s) (i:=i2) (by rw[Z.o];exact hN) aq;have SY:=qh (show nm.length<=maxLen by unfold maxLen;omega);obtain⟨v4,C⟩:=af (tb nm);have aw:=qh C;have ad:=qh (show R=dG s.data.toList.length [41] (wordsOf s.data.toList Q) λ l=>.ok [iy 3 0 nm []] l by rw[G.o,HN.o,ZE]);have pK:=qh (yx.o.trans E);have B4:=ZC.o.kp E (by omega);have ak:=qh B4;have Dw:=qh tZ;have VV:=qh (OL.o.kp E (by omega));have a6:M.heap.size<=I.heap.size:=E.size;have ap:=qh (show bY I (λ b=>m.heap.size<b) I.heap.size (iy 3 0 nm []) (aA (iy 3 0 nm []) none 0 none 0) from
   wX (B:=I.heap.size) (css:=[]) 3 0 nm SY.o ⟨rfl,λ j h=>absurd h (by simp)⟩ (λ k hk=>by omega) ⟨rfl,.inl ⟨rfl,rfl⟩⟩ (bz _))
  rw[C];clear hN C ZE tZ E av;obtain⟨qi,bc,qW,a9,xE,a8,zX,ba,zY,a1,zZ,a5,Aa,bd,Ac,a3⟩:=ah.z8 B4;go_wp2_with fail;obtain⟨O,S⟩:=aG (I.setCell ⟨m.heap.size,2,none⟩ (bm v4));have Ri:∀ k,k≠m.heap.size->O.heap[k]?=I.heap[k]?:=λ k hk=>by rw[S];exact Below.heap_setCell I ⟨m.heap.size,2,none⟩ _ k hk
  have bb:O.heap.size=I.heap.size:=by rw[S];simp[World.setCell]
  have al:=qh (Dw.o.kp (Ri g (by omega)));have aa:=qh (show Kp g w O by rw[S];exact FW pK.o (by omega) _ _);have ZF:=qh (show ah O m.heap.size 67 #[bk bl 3,bk bl 0,bm v4,bk bl 0,bk bl 0,bm ⟨#[]⟩,bn none 0 0,bn none 0 0] by
   rw[S];have h1:=ak.o.bP 2 (bm v4);simpa using h1)
  have ZG:=qh (show ZB O w.heap.size by (try unfold ZB);unfold ah;rw[Ri _ (by omega)];exact VV.o);have ag:=qh ((ap.o.keep ⟨by omega,λ k hk _=>Ri k (by omega)⟩).up (show I.heap.size<=O.heap.size by omega));rw[<- S];clear S B4;have uh:=take_any g s Q O al.o [41] (by decide);obtain⟨i6,LZ⟩:=af (bD s Q+(bH s Q).length);have F:=λ h=>jL (s:=s) (i:=Q) (word:=[41]) h;rw[show tb [41]=⟨#[41]⟩ from rfl,LZ] at uh;rw[LZ] at F;refine uh.mono ?_;intro e w8 d;obtain⟨b5,z⟩:=af (lG (wordsOf s.data.toList Q) [41]);rw[z] at d;cases b5
  .rw[if_neg (by decide)] at d;obtain⟨rfl,rfl⟩:=d;have a:R = .err (bD s Q):=by rw[ad.o];unfold dG;rw[if_neg (by rw[z];decide),kY]
   have qP:=qh a;clear a uh F LZ;go_wp2_with fail;refine⟨rfl,?_⟩;rw[qP.o];exact⟨rfl,aa.o⟩
  .rw[if_pos rfl] at d;obtain⟨rfl,ZH,o⟩:=d;have a:R = .ok [iy 3 0 nm []] (wordsOf s.data.toList i6):=by rw[ad.o];unfold dG;rw[if_pos z,<- (F z).1]
   have qP:=qh a;have ax:=qh (ag.o.kpq o (λ k hk=>by omega));have am:=qh ZH;have aM:=qh (aa.o.trans o);have B8:=ZF.o.kp o (by omega);have aL:=ZG.o.kp o (by omega);clear a uh F LZ z ZH o;obtain⟨iE,iF,iG,iH,iI,iJ,iK,gX⟩:=ah.c8 B8;obtain⟨fK,lD,gJ,lF,jC,rD,jD,rE,nJ,IV,nK,IW,nM,IX,nN,IY⟩:=ah.z8 aL;go_wp2_with fail;refine bodyPost_ret (v:=.tuple #[.agg #[bk bl 3,bk bl 0,bm v4,bk bl 0,bk bl 0,bm ⟨#[]⟩,bn none 0 0,bn none 0 0],bq true]) (by simp[results,results324,go_sem,fK,gJ,jC,jD,nJ,nK,nM,nN]) rfl ?_;rw[qP.o];have C:=aw.o;subst C;exact Zv (L:=m.heap.size) (x:=iy 3 0 nm []) (A:=none) (c:=0) (A':=none) (c':=0) ax.o (by omega) an am.o aM.o
theorem VW (g:Nat) (w:World) (x:List UInt8) (m:gz x=0) (i:kL x=0) (j:x≠AZ) :
  CS 324 #[bp (some ⟨g,0,none⟩),bm (tb x)] w (.tuple #[.agg #[bk bl 0,bk bl 0,bm ⟨#[]⟩,bk bl 0,bk bl 0,bm ⟨#[]⟩,bn none 0 0,bn none 0 0],bq false]):=by
 obtain⟨v,c⟩:=af (tb x);have k:=qh (λ w'=>c▸ug x w');have q:=qh (λ w'=>c▸zx x w');rw[m] at k;rw[i] at q;have o:(v.toList == (⟨#[114,111,119]⟩:ByteArray).toList)=false:=dV (λ e=>by
  have D:x=AZ:=by rw[<- jf x,c,e];rfl
  exact j D)
 have bs:(v.toList == [114,111,119])=false:=by simpa using o
 clear o;rw[c];clear c m i j;go_enter func324,ntmps324;go_upto_region 1 with (fail);obtain⟨W,n,-,l,-,-,h⟩:=Y6 0 w;rw[<- n];clear n;go_wp2_with fail;refine (k.o W).mono ?_;rintro e y ⟨rfl,b⟩;go_wp2_with fail;refine (q.o y).mono ?_;rintro e wb ⟨rfl,f⟩;have a:DD W wb:=b.trans (f.mono b.size);have d:=h.trans (a.mono h.size);have u:=l.o.below a l.o.lt;clear b f a;obtain⟨A,K,C,L,E,J,r,H,z,F,B,M,t,G,s,I⟩:=ah.z8 u;go_wp2_with fail;refine bodyPost_ret (v:=.tuple #[.agg #[bk bl 0,bk bl 0,bm ⟨#[]⟩,bk bl 0,bk bl 0,bm ⟨#[]⟩,bn none 0 0,bn none 0 0],bq false]) (by simp[results,results324,go_sem,A,C,E,r,z,B,t,s]) rfl ⟨rfl,?_⟩;exact ((((((((d.setCell (p:=⟨w.heap.size,0,none⟩) (br _) _).setCell (p:=⟨w.heap.size,1,none⟩) (br _) _).setCell (p:=⟨w.heap.size,2,none⟩) (br _) _).setCell (p:=⟨w.heap.size,3,none⟩) (br _) _).setCell (p:=⟨w.heap.size,4,none⟩) (br _) _).setCell (p:=⟨w.heap.size,5,none⟩) (br _) _).setCell (p:=⟨w.heap.size,6,none⟩) (br _) _).setCell (p:=⟨w.heap.size,7,none⟩) (br _) _)
end
open Go.RowKit Vtx
theorem FZ (p:UInt8->Bool):∀ l:List UInt8,l.dropWhile p=l.drop (bQ p l)
 | []=>rfl
 | c :: r=>by
  rw[bA,bQ];cases h:p c
  .simp
  .simp[FZ p r]
theorem ZJ {T s a:List UInt8} {n:Nat} (h:n<s.length) (b:s.getD n 0≠32) (c:T=a ++ Af a.getLast? (s.drop n)):T=(a ++ [s.getD n 0]) ++ Af (a ++ [s.getD n 0]).getLast? (s.drop (n+1)):=by
 rw[c,drop_cons h,Tq _ _ b];simp
theorem Rj {T s a:List UInt8} {n J:Nat} (h:n<s.length) (d:s.getD n 0=32) (c:J=n+bQ bF (s.drop n)) (g:T=a ++ Af a.getLast? (s.drop n)) :
  T=a ++ if kD a.getLast? (s.drop J) then 32 :: Af (some 32) (s.drop J) else Af a.getLast? (s.drop J):=by
 have b:s.drop n=32 :: s.drop (n+1):=by rw[drop_cons h,d]
 have f:(s.drop (n+1)).dropWhile bF=s.drop J:=by
  have e:(s.drop n).dropWhile bF=(s.drop (n+1)).dropWhile bF:=by rw[b,bA];rfl
  rw[<- e,FZ,List.drop_drop,c]
 rw[g,b,Ob,f]
theorem VX {s a:List UInt8} {J:Nat} (h:¬ J<s.length):kD a.getLast? (s.drop J)=false:=by
 rw[bB (by omega)];unfold kD;cases a.getLast? <;> rfl
theorem VY {s b:List UInt8} {a:UInt8} {J:Nat} (h:J<s.length):kD (b ++ [a]).getLast? (s.drop J)=((fQ a || decide (a=35)) && fQ (s.getD J 0)):=by
 rw[drop_cons h,List.getLast?_append];rfl
theorem I8 {T s a:List UInt8} {J:Nat} (b:kD a.getLast? (s.drop J)=true) (h:T=a ++ if kD a.getLast? (s.drop J) then 32 :: Af (some 32) (s.drop J) else Af a.getLast? (s.drop J)):T=(a ++ [32]) ++ Af (a ++ [32]).getLast? (s.drop J):=by
 rw[h,if_pos b];simp
theorem vU {T s a:List UInt8} {J:Nat} (b:kD a.getLast? (s.drop J)=false) (h:T=a ++ if kD a.getLast? (s.drop J) then 32 :: Af (some 32) (s.drop J) else Af a.getLast? (s.drop J)):T=a ++ Af a.getLast? (s.drop J):=by
 rw[h,if_neg (by rw[b];decide)]
attribute [local go_sem ↓] Go.wp_at_zero Go.wp_at_succ
def jB (l:List UInt8):List Value:=l.map (λ x=>.int .u8 (x.toNat:Nat))
theorem ZK:(lM.info? 5).map (λ i=>(i.zero,i.size,i.bytes))=some (some (.int .u8 0),1,1):=by kernel_rfl
theorem Gf {c:UInt8} (h:c.toNat=32):c=32:=bt.1 h
theorem VZ (s:ByteArray) (w:World) (hs:s.size<=4000):CS 326 #[bm s] w (bm (tb (lL s.data.toList))):=by
 obtain⟨T,hT⟩:=af (lL s.data.toList);have ar:=qh (show T = [] ++ Af ([]:List UInt8).getLast? (s.data.toList.drop 0) by rw[<- hT,YT];rfl);rw[hT];clear hT;obtain⟨i0,ab,ac,aa,X⟩:=info_parts ZK;go_enter func326,ntmps326;go_wp2_with fail;go_loopw [4,3,5] (λ iv ov _ wz=>∃ (n:Nat) (b:List UInt8) (A:Option Addr) (c:Nat),iv = bk bl (n:Nat)/\ov = bn A b.length c/\Hid (n<=s.size)/\Hid (b.length<=n)/\Hid (wz.ownsRow w.heap.size 5 1 (bn A b.length c) b.length (jB b))/\Hid (T=b ++ Af b.getLast? (s.data.toList.drop n))/\DD w wz) (λ iv _ _ _=>s.size - (intOf iv).toNat)
 case atStart=>exact⟨0,[],none,0,rfl,rfl,qh (bz _),qh (br _),qh ⟨rfl,.inl ⟨rfl,rfl⟩⟩,ar,Below.refl _ _⟩
 case round =>
  obtain⟨n,b,A,c,rfl,rfl,ag,l,K,mO,f⟩:=hrel;by_cases hlt:n<s.size
  .have aV:=qh hlt;obtain⟨M,hM⟩:=af (b.length);have B:=qh hM;rw[hM] at K;rw[hM];have HN:=qh (show M<=4000 by have:=l.o;omega);have VJ:((n:Nat):Int)<((s.size:Nat):Int):=by omega
   by_cases h32:(s[n]'hlt).toNat=32
   .obtain⟨J,hJ⟩:=aG (n+bQ bF (s.data.toList.drop n));have p:=qh (Rj (n:=n) (by rw[aN];exact hlt) (by rw[lV hlt];exact Gf h32) hJ mO.o);have ap:n+1<=J:=by
     have h1:=kX hlt (show bF (s[n]'hlt)=true from decide_eq_true (Gf h32)) hJ;omega
    have r:=qh ap;have an:J<=s.size:=by
     have h1:=qo bF (s.data.toList.drop n);rw[List.length_drop,aN] at h1;omega
    have t:=qh an;have av:=qh hJ;have b1:(((s[n]'hlt).toNat:Int) == 32)=true:=by simp;omega
    have aw:((s[n]'hlt).toNat == 32)=true:=by simp;omega
    have aR:IntKind.i64.wrap (((J:Nat):Int) - 1)=((J - 1:Nat):Int):=by rw[show ((J:Nat):Int) - 1=((J - 1:Nat):Int) by omega];exact IntWalk.i64_in _ (by omega)
    have a4:IntKind.i64.wrap (((J - 1:Nat):Int)+1)=((J:Nat):Int):=by rw[show ((J - 1:Nat):Int)+1=((J:Nat):Int) by omega];exact IntWalk.i64_in _ (by omega)
    have G:=qh (show Hid (wr.ownsRow w.heap.size 5 1 (bn A b.length c) b.length (jB b)) from qh (by rw[B.o];exact K.o));clear h32 hJ;go_wp2_with fail
    go_loop [5] (λ x=>∃ m:Nat,n<=m/\m<=s.size/\x = bk bl m/\Hid (J=m+bQ bF (s.data.toList.drop m))) (λ x=>s.size - (intOf x).toNat)
    case atStart=>exact⟨n,br _,ag.o,rfl,av⟩
    case round =>
     obtain⟨m,a1,hm,rfl,HR⟩:=hrel;by_cases tu:m<s.size
     .have ak:=qh tu;have aq:((m:Nat):Int)<((s.size:Nat):Int):=by omega
      by_cases h32:(s[m]'tu).toNat=32
      .have HG:=qh (kX tu (show bF (s[m]'tu)=true from decide_eq_true (Gf h32)) HR.o);have b2:(((s[m]'tu).toNat:Int) == 32)=true:=by simp;omega
       clear h32;go_wp2_with fail
       go_round
       case rel=>exact⟨m+1,by omega,ak.o,by go_num,HG⟩
       case measure =>
        have:=ak.o;simp[intOf];omega
      .have QS:=mQ tu (show bF (s[m]'tu)=false from decide_eq_false (λ e=>h32 (by rw[e];rfl))) HR.o;have b2:(((s[m]'tu).toNat:Int) == 32)=false:=by simp;omega
       subst QS;obtain⟨q,hq⟩:=af (fQ (s[J]'tu));have v:=qh (λ w'=>(show Calls lM 284 #[.int .u8 ((s[J]'tu).toNat:Nat)] w' λ e H=>e = .returned (bq q)/\w'=H from (jc (s[J]'tu) w').mono λ e H ⟨z,hw⟩=>⟨z.trans (congrArg (λ x=>Ending.returned (bq x)) hq),hw⟩));by_cases hM0:0<M
       .obtain⟨Y,a,i⟩:∃ Y a,b=Y ++ [a]:=by
         have ae:b≠[]:=by intro e;rw[e] at hM;simp at hM;omega
         exact⟨b.dropLast,b.getLast ae,(List.dropLast_concat_getLast ae).symm⟩
        obtain⟨ad,O,-,o⟩:=(Reads.fB K.o).2 hM0;subst O;have al:Y.length=M - 1:=by have h:=hM;rw[i] at h;simp at h;omega
        have aM:wr.cell? (ad.add (M - 1))=some (.int .u8 (a.toNat:Nat)):=o (M - 1) _ (by rw[i];unfold jB;simp[<- al]);have a0:IntKind.i64.wrap (((M:Nat):Int) - 1)=((M - 1:Nat):Int):=by rw[show ((M:Nat):Int) - 1=((M - 1:Nat):Int) by omega];exact IntWalk.i64_in _ (by have:=HN.o;omega)
        have a2:M - 1<M:=by omega
        have aL:(0:Int)<((M:Nat):Int):=by omega
        have a3:((M - 1:Nat):Int)<((M:Nat):Int):=by omega
        have aZ:(0:Int)<=((M - 1:Nat):Int):=by omega
        have U:=qh (show kD b.getLast? (s.data.toList.drop J)=((fQ a || decide (a=35)) && q) by rw[i,VY (by rw[aN];exact tu),lV tu,hq]);obtain⟨d,hd⟩:=af (fQ a);have F:=qh (λ w'=>(show Calls lM 284 #[.int .u8 (a.toNat:Nat)] w' λ e H=>e = .returned (bq d)/\w'=H from (jc a w').mono λ e H ⟨z,hw⟩=>⟨z.trans (congrArg (λ x=>Ending.returned (bq x)) hd),hw⟩));rw[hd] at U;clear o al i hd hq h32;cases d
        .by_cases z:a=35
         .have be:((a.toNat:Int) == 35)=true:=by rw[z];rfl
          have ax:(a.toNat == 35)=true:=by rw[z];rfl
          rw[decide_eq_true z] at U;clear z;cases q
          .have N:=qh (show kD b.getLast? (s.data.toList.drop J)=false from U.o);have g:=qh (vU (N.o) p.o);go_wp2_with (first | (go_at_call 284;(with_reducible refine (F.o _).mono ?_);rintro e L ⟨rfl,rfl⟩) | (go_at_call 284;(with_reducible refine (v.o _).mono ?_);rintro e L ⟨rfl,rfl⟩));go_roundw
           case rel=>exact⟨J,b,_,c,rfl,by rw[B.o],t,qh (by have:=l.o;have:=r.o;omega),G.o,g,f⟩
           case measure =>
            have:=r.o;have:=t.o;simp[intOf];omega
          .have Z:=qh (show kD b.getLast? (s.data.toList.drop J)=true from U.o);have g:=qh (I8 Z.o p.o);go_upto_region 11 with (first | (go_at_call 284;(with_reducible refine (F.o _).mono ?_);rintro e L ⟨rfl,rfl⟩) | (go_at_call 284;(with_reducible refine (v.o _).mono ?_);rintro e L ⟨rfl,rfl⟩));go_wp2_with (at_builtin;refine wpList_append_lies _ rfl _ _ 218 rfl w.heap.size 5 i0 (.int .u8 0) 1 1 underlying218 ab ac aa X rfl (by decide) _ _ _ rfl (K.o.alloc _) ⟨wr.heap.size,0,none⟩ 1 1 [.int .u8 32] rfl rfl ?d1 ?d2 (by decide) ?d3 ?d4 ?d5 _ rfl ?_)
           case d1=>exact bv (ah.new wr 5 _)
           case d2=>intro u R;simp only[bw] at R;subst R;rfl
           case d3=>have:=HN.o;unfold maxLen;omega
           case d4=>have:=HN.o;omega
           case d5=>have:=f.size;simp;omega
           intro g7 y w7 W V zt Oq;have OM:DD w w7:=(f.alloc f.size _).grown V (by have:=f.size;simp;omega) (λ k hk=>(K.o.lt k hk).1);have E:=qh W;have C:(b ++ [(32:UInt8)]).length=M+1:=by rw[bx,B.o];rfl
           have Q:jB (b ++ [(32:UInt8)])=jB b ++ [.int .u8 32]:=by simp[jB]
           have I:=qh (show w7.ownsRow w.heap.size 5 1 (bn (some ⟨g7,0,none⟩) (b ++ [(32:UInt8)]).length y) (b ++ [(32:UInt8)]).length (jB (b ++ [(32:UInt8)])) by rw[C,Q];exact E.o);have S:=qh C;clear W V zt Oq C Q;go_wp2_with fail;go_roundw
           case rel=>exact⟨J,b ++ [32],_,_,rfl,by rw[S.o],t,qh (by rw[S.o];have:=l.o;have:=B.o;have:=r.o;omega),I,g,OM⟩
           case measure =>
            have:=r.o;have:=t.o;simp[intOf];omega
         .have be:((a.toNat:Int) == 35)=false:=by
           have h1:a.toNat≠35:=λ e=>z (bt.1 e);simp;omega
          have ax:(a.toNat == 35)=false:=by
           have h1:a.toNat≠35:=λ e=>z (bt.1 e);simp;omega
          rw[decide_eq_false z] at U;clear z;have N:=qh (show kD b.getLast? (s.data.toList.drop J)=false from U.o);have g:=qh (vU (N.o) p.o);go_wp2_with (first | (go_at_call 284;(with_reducible refine (F.o _).mono ?_);rintro e L ⟨rfl,rfl⟩) | (go_at_call 284;(with_reducible refine (v.o _).mono ?_);rintro e L ⟨rfl,rfl⟩));go_roundw
          case rel=>exact⟨J,b,_,c,rfl,by rw[B.o],t,qh (by have:=l.o;have:=r.o;omega),G.o,g,f⟩
          case measure =>
           have:=r.o;have:=t.o;simp[intOf];omega
        .cases q
         .have N:=qh (show kD b.getLast? (s.data.toList.drop J)=false from U.o);have g:=qh (vU (N.o) p.o);go_wp2_with (first | (go_at_call 284;(with_reducible refine (F.o _).mono ?_);rintro e L ⟨rfl,rfl⟩) | (go_at_call 284;(with_reducible refine (v.o _).mono ?_);rintro e L ⟨rfl,rfl⟩));go_roundw
          case rel=>exact⟨J,b,_,c,rfl,by rw[B.o],t,qh (by have:=l.o;have:=r.o;omega),G.o,g,f⟩
          case measure =>
           have:=r.o;have:=t.o;simp[intOf];omega
         .have Z:=qh (show kD b.getLast? (s.data.toList.drop J)=true from U.o);have g:=qh (I8 Z.o p.o);go_upto_region 11 with (first | (go_at_call 284;(with_reducible refine (F.o _).mono ?_);rintro e L ⟨rfl,rfl⟩) | (go_at_call 284;(with_reducible refine (v.o _).mono ?_);rintro e L ⟨rfl,rfl⟩));go_wp2_with (at_builtin;refine wpList_append_lies _ rfl _ _ 218 rfl w.heap.size 5 i0 (.int .u8 0) 1 1 underlying218 ab ac aa X rfl (by decide) _ _ _ rfl (K.o.alloc _) ⟨wr.heap.size,0,none⟩ 1 1 [.int .u8 32] rfl rfl ?d1 ?d2 (by decide) ?d3 ?d4 ?d5 _ rfl ?_)
          case d1=>exact bv (ah.new wr 5 _)
          case d2=>intro u R;simp only[bw] at R;subst R;rfl
          case d3=>have:=HN.o;unfold maxLen;omega
          case d4=>have:=HN.o;omega
          case d5=>have:=f.size;simp;omega
          intro g7 y w7 W V zt Oq;have OM:DD w w7:=(f.alloc f.size _).grown V (by have:=f.size;simp;omega) (λ k hk=>(K.o.lt k hk).1);have E:=qh W;have C:(b ++ [(32:UInt8)]).length=M+1:=by rw[bx,B.o];rfl
          have Q:jB (b ++ [(32:UInt8)])=jB b ++ [.int .u8 32]:=by simp[jB]
          have I:=qh (show w7.ownsRow w.heap.size 5 1 (bn (some ⟨g7,0,none⟩) (b ++ [(32:UInt8)]).length y) (b ++ [(32:UInt8)]).length (jB (b ++ [(32:UInt8)])) by rw[C,Q];exact E.o);have S:=qh C;clear W V zt Oq C Q;go_wp2_with fail;go_roundw
          case rel=>exact⟨J,b ++ [32],_,_,rfl,by rw[S.o],t,qh (by rw[S.o];have:=l.o;have:=B.o;have:=r.o;omega),I,g,OM⟩
          case measure =>
           have:=r.o;have:=t.o;simp[intOf];omega
       .have ao:M=0:=by omega
        subst ao;have i:b = []:=bE.1 hM;have D:kD b.getLast? (s.data.toList.drop J)=false:=by rw[i];rfl
        have N:=qh D;clear i D h32;have g:=qh (vU (N.o) p.o);go_wp2_with (first | (go_at_call 284;(with_reducible refine (v.o _).mono ?_);rintro e L ⟨rfl,rfl⟩));go_roundw
        case rel=>exact⟨J,b,_,c,rfl,by rw[B.o],t,qh (by have:=l.o;have:=r.o;omega),G.o,g,f⟩
        case measure =>
         have:=r.o;have:=t.o;simp[intOf];omega
     .have QS:=pJ tu HR.o;have aD:m=s.size:=by omega
      subst QS;have D:kD b.getLast? (s.data.toList.drop J)=false:=VX (by rw[aN];exact tu);have N:=qh D;have aq:¬ ((J:Nat):Int)<((s.size:Nat):Int):=by omega
      clear D aD;have g:=qh (vU (N.o) p.o);go_wp2_with (fail);go_roundw
      case rel=>exact⟨J,b,_,c,rfl,by rw[B.o],t,qh (by have:=l.o;have:=r.o;omega),G.o,g,f⟩
      case measure =>
       have:=r.o;have:=t.o;simp[intOf];omega
   .have g:=qh (ZJ (n:=n) (by rw[aN];exact hlt) (by rw[lV hlt];exact λ e=>h32 (by rw[e];rfl)) mO.o);rw[lV hlt] at g;have b1:(((s[n]'hlt).toNat:Int) == 32)=false:=by simp;omega
    have aw:((s[n]'hlt).toNat == 32)=false:=by simp;omega
    clear h32;go_upto_region 6 with (fail);go_wp2_with (at_builtin;refine wpList_append_lies _ rfl _ _ 218 rfl w.heap.size 5 i0 (.int .u8 0) 1 1 underlying218 ab ac aa X rfl (by decide) _ _ _ rfl (K.o.alloc _) ⟨wr.heap.size,0,none⟩ 1 1 [.int .u8 ((s[n]'hlt).toNat:Nat)] rfl rfl ?d1 ?d2 (by decide) ?d3 ?d4 ?d5 _ rfl ?_)
    case d1=>exact bv (ah.new wr 5 _)
    case d2=>intro u R;simp only[bw] at R;subst R;rfl
    case d3=>have:=HN.o;unfold maxLen;omega
    case d4=>have:=HN.o;omega
    case d5=>have:=f.size;simp;omega
    intro g7 y w7 W V zt Oq;have OM:DD w w7:=(f.alloc f.size _).grown V (by have:=f.size;simp;omega) (λ k hk=>(K.o.lt k hk).1);have E:=qh W;have C:(b ++ [s[n]'hlt]).length=M+1:=by rw[bx,B.o];rfl
    have Q:jB (b ++ [s[n]'hlt])=jB b ++ [.int .u8 ((s[n]'hlt).toNat:Nat)]:=by simp[jB]
    have I:=qh (show w7.ownsRow w.heap.size 5 1 (bn (some ⟨g7,0,none⟩) (b ++ [s[n]'hlt]).length y) (b ++ [s[n]'hlt]).length (jB (b ++ [s[n]'hlt])) by rw[C,Q];exact E.o);have S:=qh C;clear W V zt Oq C Q;go_wp2_with fail;go_roundw
    case rel=>exact⟨n+1,b ++ [s[n]'hlt],_,_,by go_num,by rw[S.o],aV,qh (by rw[S.o];have:=l.o;have:=B.o;omega),I,g,OM⟩
    case measure =>
     have:=aV.o;simp[intOf];omega
  .have ay:n=s.size:=by have:=ag.o;omega
   have am:=qh (show T=b by rw[mO.o,bB (by rw[aN];omega),YS,List.append_nil]);have VJ:¬ ((n:Nat):Int)<((s.size:Nat):Int):=by omega
   have kc:(convert 218 9 (bn A b.length c)).run lM wr = .ok (bm (tb b)) wr:=by
    rcases K.o.2 with ⟨h0,h1⟩ | ⟨g',y,aE,e0,C,Q,e3⟩
    .injection h0 with O hl hc;subst O;have hn:b = []:=bE.1 hl;subst hn;exact run_convert_bytes_nil wr 218 5 underlying218 underlying5 _ _ _ underlying9
    .injection e0 with O hl hc;subst O;have h1:=run_convert_bytes_arg (P:=lM) wr 218 5 underlying218 underlying5 g' 0 b.length c (b.map (λ x=>(x.toNat:Int))) (by simp) (λ j hj=>by
      obtain⟨ad,O,-,o⟩:=(Reads.fB K.o).2 (by omega);injection O with O;subst O;have h2:=o j (.int .u8 ((b.map (λ x=>(x.toNat:Int))).getD j 0)) (by unfold jB;simp[List.getD,hj]);have e:(⟨g',0,none⟩:Addr).add j=⟨g',0+j,none⟩:=by unfold Addr.add;split <;> simp_all
      rw[e] at h2;exact h2) _ underlying9
     rw[h1];congr 2;unfold tb;refine ByteArray.ext (Array.toList_inj.1 ?_);rw[strOfNums_data,List.map_map]
     conv=>rhs;rw[<- List.map_id b]
     refine List.map_congr_left (λ x _=>?_);simp
   clear ay;go_wp2_with fail;go_ret;exact⟨by rw[am.o];rfl,f⟩
theorem yz:∀ (f:Nat) (a l:List UInt8),(qI f a l).length<=a.length+l.length
 | 0,a,l=>by simp[qI]
 | f+1,a,[]=>by simp[qI]
 | f+1,a,c :: r=>by
  rw[qI];split
  .have e:=yz f (a ++ [c]) r;simp at e ⊢;omega
  .obtain⟨d,b⟩:=af ((if SG a (r.dropWhile bF) then a ++ [32] else a));have h:d.length<=a.length+1:=by rw[<- b];split <;> simp
   rw[b];have e:=yz f d (r.dropWhile bF);have g:=FH r;simp only[List.length_cons];omega
theorem V3 (l:List UInt8):(lL l).length<=l.length:=by
 have h:=yz (l.length+1) [] l;simpa [lL] using h
theorem Gg (g:Nat) (s:ByteArray) (i:Nat) (w:World) (hp:bI w g s i) (hm:TM w g) (t:Tok) (r:List Tok) (hL:wordsOf s.data.toList i=t :: r) :
  Calls lM 322 #[bp (some ⟨g,0,none⟩)] w λ e w'=>yw w g s (match uB (if sQ t.tx then lL t.tx else t.tx) with
   | some v=>.ok [jW v] r
   | none=>.err t.at_) e w':=by
 have zk:=qh hp;have HM:=qh hm;have ag:=hp.b.lt;have H:=lS hL;obtain⟨ea,et,eh⟩:=nU H.1;obtain⟨tl,C,ax⟩:=rJ H.1;obtain⟨c0,am⟩:=af (s.data.toList.getD t.at_ 0);rw[am] at C;have an:=iV H.1;rw[aN] at an;have aD:=hp.s;have aE:t.tx.length<=4000:=by omega
 have ae:=qh (show r=wordsOf s.data.toList (bD s i+(bH s i).length) by rw[ea,et];exact H.2);have ak:=qh (show t.at_=bD s i from ea.symm);have c2:w.cell? ⟨g,2,none⟩=some (bm (tb t.tx)):=by have h:=hp.b.cell 2;rw[et] at h;exact h
 have K:sQ t.tx=decide (c0=123):=by unfold sQ;rw[C]
 obtain⟨R,hR⟩:∃ R,(match uB (if sQ t.tx then lL t.tx else t.tx) with
   | some v=>uT.ok [jW v] r
   | none=>uT.err t.at_)=R:=⟨_,rfl⟩
 have V4:=qh hR;rw[hR];obtain⟨v,hv⟩:=af (tb t.tx);have J:=qh hv;have ay:0<v.size:=by rw[<- hv,lU,C];simp
 have p:v[0]=c0:=by
  subst hv;have I:(tb t.tx).data.toList[0]?=some c0:=by rw[jf,C];rfl
  have h2:(tb t.tx).data.toList[0]?=some (tb t.tx)[0]:=by
   rw[List.getElem?_eq_getElem (by rw[aN];exact ay)];rfl
  rw[h2] at I;injection I
 rw[hv] at c2;have al:=qh (show tb (bH s i)=v by rw[et];exact hv);clear hR hv ea et eh C ax am H an hL hp hm;by_cases hb:c0=123
 .have bb:((v[0].toNat:Int) == 123)=true:=by rw[p,hb];rfl
  have av:(v[0].toNat == 123)=true:=by rw[p,hb];rfl
  rw[K,decide_eq_true hb,if_pos rfl] at V4;clear K hb p;go_enter func322,ntmps322;go_upto_region 1 with (fail);obtain⟨W,X,z,BR,ao,V,-⟩:=mV g w;have ny:=qh (show bI W g s i by rw[X];exact zk.o.alloc _);have xK:=qh (HM.o.kp z);have jT:=qh BR;rw[<- X];clear X BR;have d2:W.cell? ⟨g,2,none⟩=some (bm v):=by have h:=ny.o.b.cell 2;rw[show tb (bH s i)=v from al.o] at h;exact h
  go_wp2_with fail;refine (VZ v W (by rw[<- J.o,lU];omega)).mono ?_;rintro e w2 ⟨rfl,l⟩;have N:v.data.toList=t.tx:=by rw[<- J.o,jf]
  rw[N];have S:=qh (Kp.of (g:=g) l);go_wp2_with fail;have O:=qh (ny.o.below l);have ng:=qh (z.trans (Kp.of l));have xw:=qh (jT.o.below l jT.o.lt);clear l;have D:=qh (HM.o.kp ng.o).tab;refine (FN (tb (lL t.tx)) w2 (by rw[lU];have:=V3 t.tx;omega) D.o.1 D.o.2).mono ?_;rw[jf];rintro e d ⟨B,j⟩;obtain⟨x,A,c,f,rfl,G,hA,U,ab,q1,q2⟩:=B.ex;have OB:x.l.length<=maxLen:=by unfold maxLen;omega
  have OD:x.s.size<=maxLen:=by unfold maxLen;omega
  have zn:=qh (And.intro G hA);have P:=qh (And.intro q1 q2);have ac:=j.size;have Ia:=qh (O.o.below j);have OE:=qh (xw.o.below j xw.o.lt);have Bj:=qh (ng.o.trans (Kp.of j));have I7:W.heap.size<=w2.heap.size:=S.o.size;clear B G hA q1 q2 U ab j;by_cases hf:f=0
  .have HV:=qh (P.o.1 hf);have F:=BH HV.o.1 HV.o.2;have aa:=qh F;subst hf;clear F;go_upto_region 5 with (fail);obtain⟨W3,a⟩:=aG (d.alloc (.cells (BF x A c) 65 (0,0)));have CZ:=qh (show bI W3 g s i by rw[a];exact Ia.o.alloc _);have FV:=qh (show ZB W3 w.heap.size by rw[a];exact OE.o.alloc _);have Q:=qh (show ah W3 d.heap.size 65 (BF x A c) by rw[a];exact ah.new d _ _);have yx:=qh (show Kp g w W3 by rw[a];exact Bj.o.alloc _);have OG:W3.heap.size=d.heap.size+1:=by rw[a];simp
   have y:=qh (show Reads W3 W3.heap.size 1 A x.l.length (bK bl x.l) by
    have I:DD d W3:=by rw[a];exact (Below.refl _ _).alloc (br _) _
    exact (zn.o.1.below I).more I.size)
   rw[<- a];clear a;have aw:g<d.heap.size:=Ia.o.b.lt;go_wp2_with (go_at_call 254;(with_reducible refine (next_any g s i _ CZ.o).mono ?_);rintro e u ⟨rfl,tZ,o⟩;have Dw:=qh tZ;have pK:=qh o;have M:=Q.o.kp o (by omega);have E:=FV.o.kp o (by omega);have xn:u.cell? ⟨d.heap.size,0,none⟩=some (bk bl x.k):=M.cell 0;have xq:u.cell? ⟨d.heap.size,1,none⟩=some (bk bl x.n):=M.cell 1;have G8:u.cell? ⟨d.heap.size,2,none⟩=some (bm x.s):=M.cell 2;have Tu:u.cell? ⟨d.heap.size,3,none⟩=some (bn A x.l.length c):=M.cell 3;clear tZ o);refine (tV x.k x.n x.s A x.l.length c u).mono ?_;rintro e w5 ⟨rfl,m⟩;have B5:=E.below m E.lt;have ap:=qh (rM (q:=λ b=>d.heap.size<=b+d.heap.size/\b≠g) (c:=c) y.o (λ ad e=>⟨by omega,by have:=zn.o.2 ad e;omega⟩) OB OD);have LY:=qh (rM (q:=λ b=>W.heap.size<=b) (c:=c) y.o (λ ad e=>by have:=zn.o.2 ad e;omega) OB OD);have Z:=qh (((LY.o.kpq pK.o (λ k hk=>by omega)).keep (aK.of m)).up m.size);obtain⟨fK,lD,gJ,lF,jC,rD,jD,rE,nJ,IV,nK,IW,nM,IX,nN,IY⟩:=ah.z8 B5;go_wp2_with fail;refine bodyPost_ret (v:=.agg #[bk bl 1,bk bl 0,bm ⟨#[]⟩,bk bl x.k,bk bl x.n,bm x.s,bn A x.l.length c,bn none 0 0]) (by simp[results,results322,go_sem,fK,gJ,jC,jD,nJ,nK,nM,nN]) rfl ?_;have n:R = .ok [jW x] (wordsOf s.data.toList (bD s i+(bH s i).length)):=by rw[<- V4.o,aa.o,ae.o]
   rw[n];exact uf (L:=W.heap.size) (x:=jW x) (A':=none) (c':=0) Z.o V ag (Dw.o.below m) ((yx.o.trans pK.o).trans (Kp.of m))
  .have aq:(f == 0)=false:=by simp[hf]
   have wR:=qh (yt (P.o.2 hf).2.2);have ar:=qh (P.o.2 hf).1;clear hf;have n:R = .err (bD s i):=by rw[<- V4.o,wR.o,ak.o]
   go_wp2_with (go_at_call 256;(with_reducible refine (oN g s i _ (Ia.o.alloc _)).mono ?_);rintro e u ⟨rfl,rfl⟩);refine⟨rfl,?_⟩;rw[n];exact⟨rfl,Bj.o.alloc _⟩
 .have bb:((v[0].toNat:Int) == 123)=false:=by
   have I:v[0].toNat≠123:=λ e=>hb (by rw[<- p];exact bt.1 e);simp;omega
  have av:(v[0].toNat == 123)=false:=by
   have I:v[0].toNat≠123:=λ e=>hb (by rw[<- p];exact bt.1 e);simp;omega
  rw[K,decide_eq_false hb,if_neg (by decide)] at V4;clear K hb p;go_enter func322,ntmps322;go_upto_region 1 with (fail);obtain⟨W,X,z,BR,ao,V,-⟩:=mV g w;have ny:=qh (show bI W g s i by rw[X];exact zk.o.alloc _);have xK:=qh (HM.o.kp z);have jT:=qh BR;rw[<- X];clear X BR;have d2:W.cell? ⟨g,2,none⟩=some (bm v):=by have h:=ny.o.b.cell 2;rw[show tb (bH s i)=v from al.o] at h;exact h
  obtain⟨w2,Y⟩:=aG (W);have l:DD W w2:=by rw[Y];exact Below.refl _ _
  have S:=qh (Kp.of (g:=g) l);go_wp2_with fail;rw[<- Y];clear Y;have O:=qh (ny.o.below l);have ng:=qh (z.trans (Kp.of l));have xw:=qh (jT.o.below l jT.o.lt);clear l;have D:=qh (HM.o.kp ng.o).tab;have N:v.data.toList=t.tx:=by rw[<- J.o,jf]
  have T:=FN v w2 (by rw[<- J.o,lU];omega) D.o.1 D.o.2;rw[N] at T;refine T.mono ?_;clear T N;rintro e d ⟨B,j⟩;obtain⟨x,A,c,f,rfl,G,hA,U,ab,q1,q2⟩:=B.ex;have OB:x.l.length<=maxLen:=by unfold maxLen;omega
  have OD:x.s.size<=maxLen:=by unfold maxLen;omega
  have zn:=qh (And.intro G hA);have P:=qh (And.intro q1 q2);have ac:=j.size;have Ia:=qh (O.o.below j);have OE:=qh (xw.o.below j xw.o.lt);have Bj:=qh (ng.o.trans (Kp.of j));have I7:W.heap.size<=w2.heap.size:=S.o.size;clear B G hA q1 q2 U ab j;by_cases hf:f=0
  .have HV:=qh (P.o.1 hf);have F:=BH HV.o.1 HV.o.2;have aa:=qh F;subst hf;clear F;go_upto_region 5 with (fail);obtain⟨W3,a⟩:=aG (d.alloc (.cells (BF x A c) 65 (0,0)));have CZ:=qh (show bI W3 g s i by rw[a];exact Ia.o.alloc _);have FV:=qh (show ZB W3 w.heap.size by rw[a];exact OE.o.alloc _);have Q:=qh (show ah W3 d.heap.size 65 (BF x A c) by rw[a];exact ah.new d _ _);have yx:=qh (show Kp g w W3 by rw[a];exact Bj.o.alloc _);have OG:W3.heap.size=d.heap.size+1:=by rw[a];simp
   have y:=qh (show Reads W3 W3.heap.size 1 A x.l.length (bK bl x.l) by
    have I:DD d W3:=by rw[a];exact (Below.refl _ _).alloc (br _) _
    exact (zn.o.1.below I).more I.size)
   rw[<- a];clear a;have aw:g<d.heap.size:=Ia.o.b.lt;go_wp2_with (go_at_call 254;(with_reducible refine (next_any g s i _ CZ.o).mono ?_);rintro e u ⟨rfl,tZ,o⟩;have Dw:=qh tZ;have pK:=qh o;have M:=Q.o.kp o (by omega);have E:=FV.o.kp o (by omega);have xn:u.cell? ⟨d.heap.size,0,none⟩=some (bk bl x.k):=M.cell 0;have xq:u.cell? ⟨d.heap.size,1,none⟩=some (bk bl x.n):=M.cell 1;have G8:u.cell? ⟨d.heap.size,2,none⟩=some (bm x.s):=M.cell 2;have Tu:u.cell? ⟨d.heap.size,3,none⟩=some (bn A x.l.length c):=M.cell 3;clear tZ o);refine (tV x.k x.n x.s A x.l.length c u).mono ?_;rintro e w5 ⟨rfl,m⟩;have B5:=E.below m E.lt;have ap:=qh (rM (q:=λ b=>d.heap.size<=b+d.heap.size/\b≠g) (c:=c) y.o (λ ad e=>⟨by omega,by have:=zn.o.2 ad e;omega⟩) OB OD);have LY:=qh (rM (q:=λ b=>W.heap.size<=b) (c:=c) y.o (λ ad e=>by have:=zn.o.2 ad e;omega) OB OD);have Z:=qh (((LY.o.kpq pK.o (λ k hk=>by omega)).keep (aK.of m)).up m.size);obtain⟨fK,lD,gJ,lF,jC,rD,jD,rE,nJ,IV,nK,IW,nM,IX,nN,IY⟩:=ah.z8 B5;go_wp2_with fail;refine bodyPost_ret (v:=.agg #[bk bl 1,bk bl 0,bm ⟨#[]⟩,bk bl x.k,bk bl x.n,bm x.s,bn A x.l.length c,bn none 0 0]) (by simp[results,results322,go_sem,fK,gJ,jC,jD,nJ,nK,nM,nN]) rfl ?_;have n:R = .ok [jW x] (wordsOf s.data.toList (bD s i+(bH s i).length)):=by rw[<- V4.o,aa.o,ae.o]
   rw[n];exact uf (L:=W.heap.size) (x:=jW x) (A':=none) (c':=0) Z.o V ag (Dw.o.below m) ((yx.o.trans pK.o).trans (Kp.of m))
  .have aq:(f == 0)=false:=by simp[hf]
   have wR:=qh (yt (P.o.2 hf).2.2);have ar:=qh (P.o.2 hf).1;clear hf;have n:R = .err (bD s i):=by rw[<- V4.o,wR.o,ak.o]
   go_wp2_with (go_at_call 256;(with_reducible refine (oN g s i _ (Ia.o.alloc _)).mono ?_);rintro e u ⟨rfl,rfl⟩);refine⟨rfl,?_⟩;rw[n];exact⟨rfl,Bj.o.alloc _⟩
end Go.Proofs.YtcnagconagpkcaaGreatDoor
