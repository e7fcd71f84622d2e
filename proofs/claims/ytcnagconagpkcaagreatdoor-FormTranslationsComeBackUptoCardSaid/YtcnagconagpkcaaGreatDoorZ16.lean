/- Lemmas. -/
import Derived.Test.YtcnagconagpkcaaGreatDoorZ15
import Derived.Recover
import Derived.Defers
import Derived.Laws.Pointers
open Go.Value renaming int->bE, string->bN, slice->bO, pointer->bR, bool->bS
open Go.IntKind renaming i64->bL
open Go.Ending renaming returned->bX, returned->ca
open Nat renaming le_refl->b3, zero_le->b4, le_trans->b6, lt_of_lt_of_le->b7
set_option maxHeartbeats 8000000
set_option maxRecDepth 100000
namespace Go.Proofs.YtcnagconagpkcaaGreatDoor
open Tryz
open Tryz renaming prog->lM
section
open Go.RowKit Vtx
attribute [local go_sem ↓] Go.wp_at_zero Go.wp_at_succ
noncomputable def J8 (x:List UInt8) (a:Nat) (r:List Tok):uT:=match uB x with
 | some v=>.ok [jW v] r
 | none=>.err a
theorem J9 (g:Nat) (s:ByteArray) (i:Nat) (w:World) (d:bI w g s i) (a:TM w g) (t:Tok) (r:List Tok) (b:wordsOf s.data.toList i=t :: r) :
  Calls lM 322 #[bR (some ⟨g,0,none⟩)] w λ e w'=>yw w g s (J8 (if sQ t.tx then lL t.tx else t.tx) t.at_ r) e w':=by
 refine (Gg g s i w d a t r b).mono ?_;intro e w' h;unfold J8;obtain⟨x,c⟩:=af (uB (if sQ t.tx then lL t.tx else t.tx));rw[c] at h ⊢;cases x <;> exact h
theorem Rk {n:Nat} {t:Tok} {r:List Tok} (h:t.touch=true):Pz n .eY [] (t :: r) = .err t.at_:=by rw[gY];dsimp only[iC];rw[if_pos h]
theorem Rl {n:Nat} {t:Tok} {r:List Tok} (h:t.touch=false) (a:sO t.tx=true):Pz n .eY [] (t :: r)=J8 (if sQ t.tx then lL t.tx else t.tx) t.at_ r:=by rw[gY];dsimp only[iC];rw[if_neg (by rw[h];decide),if_pos a];unfold J8;cases uB (if sQ t.tx then lL t.tx else t.tx) <;> rfl
theorem OO {n:Nat} {t:Tok} {r:List Tok} (h:t.touch=false) (a:t.tx = [40]):Pz n .eY [] (t :: r)=(Pz n .or [] r).bind λ b c=>dG n [41] c λ l2=>.ok b l2:=by
 rw[gY];dsimp only[iC];rw[if_neg (by rw[h];decide),if_neg (by rw[a];decide),if_pos a]
theorem ZL {n:Nat} {t:Tok} {r:List Tok} (h:t.touch=false) (b:sO t.tx=false) (a:t.tx≠[40]) (c:nameB t.tx=false):Pz n .eY [] (t :: r) = .err t.at_:=by
 rw[gY];dsimp only[iC];rw[if_neg (by rw[h];decide),if_neg (by rw[b];decide),if_neg a,if_pos c]
theorem Rn {n:Nat} {t:Tok} {r:List Tok} (h:t.touch=false) (b:sO t.tx=false) (a:t.tx≠[40]) (d:nameB t.tx=true) (c:wH t r=false):Pz n .eY [] (t :: r) = .ok [iy 2 0 t.tx []] r:=by
 rw[gY];dsimp only[iC];rw[if_neg (by rw[h];decide),if_neg (by rw[b];decide),if_neg a,if_neg (by rw[d];decide),if_pos c]
theorem V5 {n:Nat} {t:Tok} {r:List Tok} (h:t.touch=false) (e:sO t.tx=false) (b:t.tx≠[40]) (g:nameB t.tx=true) (f:wH t r=true) (a:gz t.tx=0) (c:kL t.tx=0) (d:t.tx≠AZ):Pz n .eY [] (t :: r) = .ok [iy 2 0 t.tx []] r:=by
 rw[gY];dsimp only[iC];rw[if_neg (by rw[h];decide),if_neg (by rw[e];decide),if_neg b,if_neg (by rw[g];decide),if_neg (by rw[f];decide),if_neg (λ h=>h a),if_neg (λ h=>h c),if_neg d]
theorem V6 {n:Nat} {t:Tok} {r:List Tok} (h:t.touch=false) (g:sO t.tx=false) (f:t.tx≠[40]) (j:nameB t.tx=true) (i:wH t r=true) (d:¬ (gz t.tx=0/\kL t.tx=0/\t.tx≠AZ)):Pz n .eY [] (t :: r)=qF n t.tx r.tail:=by
 rw[gY];dsimp only[iC];rw[if_neg (by rw[h];decide),if_neg (by rw[g];decide),if_neg f,if_neg (by rw[j];decide),if_neg (by rw[i];decide)];unfold qF;by_cases ho:gz t.tx=0
 .have c:¬ (gz t.tx≠0):=λ h=>h ho;rw[if_neg c,if_neg c];by_cases hq:kL t.tx=0
  .have nq:¬ (kL t.tx≠0):=λ h=>h hq;rw[if_neg nq,if_neg nq,if_pos (show t.tx=AZ from Decidable.not_not.1 (λ e=>d ⟨ho,hq,e⟩))];cases nameAt r.tail <;> rfl
  .have b:kL t.tx≠0:=hq;rw[if_pos b,if_pos b]
 .have a:gz t.tx≠0:=ho;rw[if_pos a,if_pos a];cases nameAt r.tail <;> rfl
theorem ZM (g:Nat) (s:ByteArray) (i:Nat) (w:World) (c:bI w g s i) (a:TM w g) (t u:Tok) (r:List Tok) (d:wordsOf s.data.toList i=t :: u :: r) (f:u.tx = [40]) (j:¬ (gz t.tx=0/\kL t.tx=0/\t.tx≠AZ)) (b:∀ L',L'.length<=r.length->fE 255 .or s L') :
  Calls lM 324 #[bR (some ⟨g,0,none⟩),bN (tb t.tx)] w λ e w'=>Rh w g s (qF s.data.toList.length t.tx r) e w':=by
 by_cases ho:gz t.tx=0
 .by_cases hq:kL t.tx=0
  .exact ZI g s i w c a t u r d f (Decidable.not_not.1 (λ h=>j ⟨ho,hq,h⟩)) b
  .exact ac7 g s i w c a t u r d f ho hq b
 .exact VU g s i w c a t u r d f ho b
theorem zA {a b:UInt8} (h:a=b) (k:Int) (n:Nat) (u:UInt8) (d:k=n) (c:n=u.toNat):((a.toNat:Int) == k)=decide (b=u)/\(a.toNat == n)=decide (b=u):=by
 subst h d c;by_cases e:a=u
 .subst e;simp
 .have f:a.toNat≠u.toNat:=λ h=>e (UInt8.toNat_inj.1 h);rw[decide_eq_false e];exact⟨by simp;omega,by simpa using f⟩
theorem OQ {s:ByteArray} {i:Nat} {t:Tok} (B:dE s.data.toList i=some t):∃ (v:ByteArray) (c:0<v.size) (C g j k r z D f y A:Bool),tb t.tx=v/\v.toList.isEmpty=false /\
  Hid (∀ w',E5 284 #[.int .u8 (v[0].toNat:Nat)] w' (bS C))/\Hid (∀ w',E5 55 #[.int .u8 (v[0].toNat:Nat)] w' (bS y)) /\
  Hid (∀ w',E5 56 #[bN v] w' (bS A)) /\
  (((v[0].toNat:Int) == 64)=g/\(v[0].toNat == 64)=g)/\(((v[0].toNat:Int) == 35)=j/\(v[0].toNat == 35)=j)/\(((v[0].toNat:Int) == 39)=k/\(v[0].toNat == 39)=k)/\(((v[0].toNat:Int) == 123)=r/\(v[0].toNat == 123)=r)/\(((v[0].toNat:Int) == 40)=f/\(v[0].toNat == 40)=f) /\
  (v.toList == [116,114,117,101])=z/\(v.toList == [102,97,108,115,101])=D/\sO t.tx=((C || g || j || k || r) || z || D)/\nameB t.tx=(y && !A)/\(t.tx = [40] ↔ f=true):=by
 obtain⟨F,a,u⟩:=rJ B;obtain⟨c0,x⟩:=af (s.data.toList.getD t.at_ 0);rw[x] at a u;obtain⟨v,m⟩:=af (tb t.tx);have c:0<v.size:=by rw[<- m,lU,a];simp
 have b:v[0]=c0:=by
  subst m;have n:(tb t.tx).data.toList[0]?=some c0:=by rw[jf,a];rfl
  have p:(tb t.tx).data.toList[0]?=some (tb t.tx)[0]:=by
   rw[List.getElem?_eq_getElem (by rw[aN];exact c)];rfl
  rw[p] at n;injection n
 have q:v.toList.isEmpty=false:=by
  cases h:v.toList.isEmpty with
  | false=>rfl
  | true =>
   have n:v.toList = []:=List.isEmpty_iff.1 h;have p:(v.toList == (⟨#[]⟩:ByteArray).toList)=true:=by rw[n];simp
   have E:(v.toList == (⟨#[]⟩:ByteArray).toList)=false:=dV (λ e=>by rw[e] at c;exact absurd c (by decide));rw[E] at p;cases p
 have o:∀ l:List UInt8,(v.toList == (tb l).toList)=decide (t.tx=l):=λ l=>by
  by_cases h:t.tx=l
  .rw[decide_eq_true h];exact kH (by rw[<- m,h])
  .rw[decide_eq_false h];exact dV (λ e=>h (J3 (by rw[m,e])))
 refine⟨v,c,fQ c0,decide (c0=64),decide (c0=35),decide (c0=39),decide (c0=123),decide (t.tx=ql),decide (t.tx=lK),decide (c0=40),rW c0,dK.contains t.tx,m,q,qh (λ w'=>by rw[b];exact jc c0 w'),qh (λ w'=>by rw[b];exact nC c0 w'),qh (λ w'=>?_),
  zA b 64 64 64 rfl rfl,zA b 35 35 35 rfl rfl,zA b 39 39 39 rfl rfl,zA b 123 123 123 rfl rfl,zA b 40 40 40 rfl rfl,by have h:=o ql;simpa [tb,ql] using h,by have h:=o lK;simpa [tb,lK] using h,?_,?_,?_⟩
 .have n:=lH v w'
  rwa [show v.data.toList=t.tx from by rw[<- m,jf]] at n
 .unfold sO;congr 1;congr 1;rw[a]
 .unfold nameB;congr 1;rw[a]
 .rw[decide_eq_true_iff];exact⟨λ h=>by rw[a] at h;injection h,λ h=>VS B (w:=F) (by rw[a,h])⟩
theorem or7 {a b c d e f g:Bool} (h:((a || b || c || d || e) || f || g)=true):a=true\/(a=false/\b=true)\/(a=false/\b=false/\c=true)\/(a=false/\b=false/\c=false/\d=true)\/(a=false/\b=false/\c=false/\d=false/\e=true)\/(a=false/\b=false/\c=false/\d=false/\e=false/\f=true)\/(a=false/\b=false/\c=false/\d=false/\e=false/\f=false/\g=true):=by
 revert h;cases a <;> cases b <;> cases c <;> cases d <;> cases e <;> cases f <;> cases g <;> simp
theorem Rh.Zn {w w':World} {g:Nat} {s:ByteArray} {f:List Ex} {l:List Tok} {e:Ending} (h:Rh w g s (.ok f l) e w') :
  ∃ y i A c A' c',f = [y]/\l=wordsOf s.data.toList i/\e = bX (.tuple #[.agg (EC y A c A' c'),bS true])/\Hid (bY w' (λ b=>w.heap.size<=b) w'.heap.size y (aA y A c A' c'))/\Hid (bI w' g s i)/\Kp g w w':=by
 obtain⟨x,i,cs,rfl,rfl,rfl,d,j,k⟩:=h;have a:=d;cases d;exact⟨x,i,_,_,_,_,rfl,rfl,rfl,qh a,qh j,k⟩
theorem Ko (s:ByteArray) (L:List Tok) (hP:∀ L',L'.length<L.length->fE 255 .or s L'):fE 319 .eY s L:=by
 intro g i w hp hm hL;have G:=hp.b.lt;have bi:=hp.s;obtain⟨W,hW⟩:=boxed w 67 Z8;have d:Kp g w W:=Kp.of hW.below;have ny:=qh (hp.below hW.below);have xK:=qh (hm.kp d);have F:=qh hW.blk;have I:=hW.blk.lt;have a8:=hW.size;have z:=qh hW.eq;have V:=qh (oN g s i W ny.o);have Hq:=qh hP;have Qz:=qh hL;have dc:=ny.o.b.cell;clear hP hp hm hW;cases L with
 | nil =>
  have S:=qh (show Pz s.data.toList.length .eY [] [] = .err (bD s i) by
   have h:=kY s i;rw[hL] at h;rw[gY,<- h];rfl)
  have ao:tb (bH s i)=⟨#[]⟩:=by
   unfold bH;cases ht:dE s.data.toList i with
   | none=>rfl
   | some t=>rw[gy,ht] at hL;cases hL
  rw[ao] at dc;clear hL ao;go_enter func319,ntmps319;go_upto_region 1 with (fail);rw[<- z.o];clear z;go_wp2_with (go_at_call 256;(with_reducible refine V.o.mono ?_);rintro e M ⟨rfl,rfl⟩);exact⟨rfl,zy S.o d⟩
 | cons t r =>
  have Q:=lS hL;have jr:=qh Q;obtain⟨ea,et,eh⟩:=nU Q.1;obtain⟨v,bp,bd,a9,ba,bn,VF,bt,bf,aV,bl,br,hv,bj,Y,J5,an,bh,bm,bg,a7,bo,st,sf,ap,al,ar⟩:=OQ Q.1;have HV:=qh hv;rw[ea,et,eh,hv] at dc;have HN:=qh (λ W (h:bI W g s i)=>next_any g s i W h);rw[ea,et] at HN;rw[ea] at V;obtain⟨R,hR⟩:=af (Pz s.data.toList.length .eY [] (t :: r));have S:=qh hR;have ad:=qh ap;have XD:=qh al;have ay:=qh ar;have ax:=(iV Q.1).2.2.2.1;rw[aN] at ax;have aM:v.size=t.tx.length:=by rw[<- hv,lU]
  rw[hR];clear hL Q ea et eh hv hR ap al ar;go_enter func319,ntmps319;go_upto_region 1 with (fail);rw[<- z.o];clear z;cases ht:t.touch
  case true =>
   rw[ht] at dc;have HT:=qh ht;clear ht;go_wp2_with (go_at_call 256;(with_reducible refine V.o.mono ?_);rintro e M ⟨rfl,rfl⟩);exact⟨rfl,zy (S.o.symm.trans (Rk HT.o)) d⟩
  rw[ht] at dc;have HT:=qh ht;clear ht;cases hc:sO t.tx
  case true =>
   have f:=qh (S.o.symm.trans (Rl HT.o hc));have HC:=qh (J9 g s i W ny.o xK.o t r Qz.o);rw[<- f.o] at HC;rw[ad.o] at hc;rcases or7 hc with rfl | ⟨rfl,rfl⟩ | ⟨rfl,rfl,rfl⟩ | ⟨rfl,rfl,rfl,rfl⟩ | ⟨rfl,rfl,rfl,rfl,rfl⟩ | ⟨rfl,rfl,rfl,rfl,rfl,rfl⟩ | ⟨rfl,rfl,rfl,rfl,rfl,rfl,rfl⟩
   all_goals
    clear hc;go_wp2_with (go_at_call 284;(with_reducible refine (Y.o _).mono ?_);rintro e M ⟨rfl,rfl⟩);refine HC.o.mono ?_;clear f S ad XD;intro e M m;cases R with
    | err k =>
     obtain⟨rfl,K⟩:=m;go_wp2_with fail;exact⟨rfl,zy rfl (d.trans K)⟩
    | ok es l1 =>
     obtain⟨y,i1,A1,c1,A2,c2,rfl,rfl,rfl,Ar,yO,K⟩:=m.Zn;have Z:=(F.o.kp K (by omega)).cell;have rz:=(F.o.kp K (by omega)).frozen;go_wp2_with fail;refine bodyPost_ret (v:=.agg (EC y A1 c1 A2 c2)) (by simp[results,results319,go_sem,Z]) rfl ?_;exact uf Ar.o I G yO.o (d.trans K)
  have HC:=qh hc;rw[ad.o] at hc;simp only[Bool.or_eq_false_iff] at hc;obtain⟨⟨⟨⟨⟨⟨rfl,rfl⟩,rfl⟩,rfl⟩,rfl⟩,rfl⟩,rfl⟩:=hc;cases aV
  case true =>
   have f:=qh (S.o.symm.trans (OO HT.o (ay.o.2 rfl)));have J6:=qh (HN.o W ny.o);obtain⟨r2,o⟩:=af (Pz s.data.toList.length .or [] r);have aL:=qh (λ W (h:bI W g s (t.at_+t.tx.length)) hm=>o▸Hq.o r (by simp) g _ W h hm jr.o.2.symm);rw[o] at f;clear o;go_wp2_with (first | (go_at_call 284;(with_reducible refine (Y.o _).mono ?_);rintro e M ⟨rfl,rfl⟩) | (go_at_call 254;(with_reducible refine J6.o.mono ?_);rintro e w2 ⟨rfl,am,l⟩));refine (aL.o w2 am (xK.o.kp l)).mono ?_;have ak:W.heap.size<=w2.heap.size:=l.size;intro e w3 h3;cases r2 with
   | err k =>
    obtain⟨rfl,O⟩:=h3;go_wp2_with fail;exact⟨rfl,zy f.o ((d.trans l).trans O)⟩
   | ok es l1 =>
    obtain⟨y,i2,A1,c1,A2,c2,rfl,rfl,rfl,ae,CZ,O⟩:=h3.Zn;have f:=qh (show R=dG s.data.toList.length [41] (wordsOf s.data.toList i2) λ l2=>.ok [y] l2 from f.o);have a5:w2.heap.size<=w3.heap.size:=O.size;have bk:g<w3.heap.size:=CZ.o.b.lt;obtain⟨W3,a⟩:=boxed w3 67 (EC y A1 c1 A2 c2);have Bj:=qh ((l.trans O).bl a.below);have X:=qh a.blk;have a3:=qh ((((ae.o.imp (q:=λ b=>W.heap.size<=b) (λ k hk _=>by omega)).keep (aK.of a.below)).up a.below.size));have uh:=take_any g s i2 W3 (CZ.o.below a.below) [41] (by decide);obtain⟨i6,LZ⟩:=af (bD s i2+(bH s i2).length);have aa:=λ h=>jL (s:=s) (i:=i2) (word:=[41]) h;rw[show tb [41]=⟨#[41]⟩ from rfl,LZ] at uh;rw[LZ] at aa;have z:=qh a.eq;have tY:=qh aa;have uh:=qh uh;clear LZ aa a h3 am l O;go_upto_region 9 with (fail);rw[<- z.o];clear z;go_wp2_with fail;refine uh.o.mono ?_;intro e w8 P;obtain⟨b5,E⟩:=af (lG (wordsOf s.data.toList i2) [41]);rw[E] at P;cases b5
    .rw[if_neg (by decide)] at P;obtain⟨rfl,rfl⟩:=P;have f:=qh (show R = .err (bD s i2) by rw[f.o];unfold dG;rw[if_neg (by rw[E];decide),kY]);clear E;go_wp2_with fail;exact⟨rfl,zy f.o (d.trans Bj.o)⟩
    .rw[if_pos rfl] at P;obtain⟨rfl,ZH,D⟩:=P;have f:=qh (show R = .ok [y] (wordsOf s.data.toList i6) by rw[f.o];unfold dG;rw[if_pos E,<- (tY.o E).1]);have ec:=(X.o.kp D (by omega)).cell;have Z:=(F.o.kp (Bj.o.trans D) (by omega)).cell;have rz:=(F.o.kp (Bj.o.trans D) (by omega)).frozen;have a0:=qh (a3.o.kpq D (λ k hk=>by omega));have aR:=qh ZH;have a4:=qh ((d.trans Bj.o).trans D);clear E ZH D;go_wp2_with fail;refine bodyPost_ret (v:=.agg (EC y A1 c1 A2 c2)) (by simp[results,results319,go_sem,Z]) rfl ?_;exact okP f.o (uf a0.o I G aR.o a4.o)
  have h4:t.tx≠[40]:=λ h=>by cases ay.o.1 h
  cases hn:nameB t.tx
  case false =>
   have f:=qh (S.o.symm.trans (ZL HT.o HC.o h4 hn));rw[XD.o] at hn;have hn:bl=false\/bl=true/\br=true:=by revert hn;cases bl <;> cases br <;> simp
   rcases hn with rfl | ⟨rfl,rfl⟩
   all_goals
    go_wp2_with (first | (go_at_call 284;(with_reducible refine (Y.o _).mono ?_);rintro e M ⟨rfl,rfl⟩) | (go_at_call 55;(with_reducible refine (J5.o _).mono ?_);rintro e M ⟨rfl,rfl⟩) | (go_at_call 56;(with_reducible refine (an.o _).mono ?_);rintro e M ⟨rfl,rfl⟩) | (go_at_call 256;(with_reducible refine V.o.mono ?_);rintro e M ⟨rfl,rfl⟩));exact⟨rfl,zy f.o d⟩
  have PT:=qh hn;have H4:=qh h4;rw[XD.o] at hn;obtain⟨rfl,rfl⟩:bl=true/\br=false:=by revert hn;cases bl <;> cases br <;> simp
  obtain⟨P0,aw⟩:=af (t.at_);obtain⟨J,hJ⟩:=af (P0+v.size);have C:J=t.at_+t.tx.length:=by omega
  have a2:((P0:Nat):Int)+(v.size:Nat)=(J:Nat):=by omega
  have bb:IntKind.i64.wrap (((P0:Nat):Int)+(v.size:Nat))=(J:Nat):=by rw[a2];exact IntWalk.i64_in _ (by omega)
  have p:=QN (s:=s.data.toList) (t:=t) C;rw[C,<- jr.o.2,<- C,aN] at p;have MV:=qh p;have av:=qh C;rw[<- C] at HN;rw[aw] at dc;have bc:t.tx.length<=4000:=by omega
  have bq:J<=s.size:=by omega
  clear p C aw hn h4 aM ax;go_upto_region 13 with (first | (go_at_call 284;(with_reducible refine (Y.o _).mono ?_);rintro e M ⟨rfl,rfl⟩) | (go_at_call 55;(with_reducible refine (J5.o _).mono ?_);rintro e M ⟨rfl,rfl⟩) | (go_at_call 56;(with_reducible refine (an.o _).mono ?_);rintro e M ⟨rfl,rfl⟩));go_quiet (fail);obtain⟨W1,ab⟩:=aG (W.drewN nq);have T:DD W W1:=by rw[ab];exact (Below.refl _ _).drewN nq
  have n:=qh T;have yO:=qh (ny.o.below T);have a6:W.heap.size<=W1.heap.size:=T.size;rw[<- ab];clear ab T dc;have d0:W1.cell? ⟨g,0,none⟩=some (bN s):=yO.o.b.cell 0;cases hd:wH t r
  case false =>
   have f:=qh (S.o.symm.trans (Rn HT.o HC.o H4.o PT.o hd));have J6:=qh (HN.o W1 yO.o);have aE:¬ ((J:Nat):Int)<((s.size:Nat):Int)\/∃ h:J<s.size,(((s[J]'h).toNat:Int) == 40)=false/\((s[J]'h).toNat == 40)=false/\((J:Nat):Int)<((s.size:Nat):Int):=by
    by_cases H:J<s.size
    .have m:=hd.symm.trans MV.o;rw[decide_eq_true H,Bool.true_and,lV H] at m;have be:s[J].toNat≠40:=λ e=>of_decide_eq_false m.symm (UInt8.toNat_inj.1 e);exact .inr ⟨H,by simp;omega,by simp;omega,by omega⟩
    .exact .inl (by omega)
   clear hd;rcases aE with m | ⟨H,m,h2,h3⟩
   all_goals
    go_wp2_with (go_at_call 254;(with_reducible refine J6.o.mono ?_);rintro e w5 ⟨rfl,DY,N⟩;have CY:=qh DY;have vS:=qh ((Kp.of n.o).trans N);have Z:=(F.o.kp vS.o (by omega)).cell;have rz:=(F.o.kp vS.o (by omega)).frozen;clear DY N);refine bodyPost_ret (v:=.agg #[bE bL 2,bE bL 0,bN v,bE bL 0,bE bL 0,bN ⟨#[]⟩,bO none 0 0,bO none 0 0]) (by simp[results,results319,go_sem,Z]) rfl ?_;obtain rfl:=HV.o;exact okP (f.o.trans (by rw[av.o,<- jr.o.2])) (uf (L:=W.heap.size) (x:=iy 2 0 t.tx []) (A:=none) (c:=0) (A':=none) (c':=0) (wX (B:=W.heap.size) (css:=[]) 2 0 t.tx (by unfold maxLen;omega) ⟨rfl,λ j h=>absurd h (by simp)⟩ (λ k hk=>hk) ⟨rfl,.inl ⟨rfl,rfl⟩⟩ (b4 _)) I G CY.o (d.trans vS.o))
  case true =>
   have HD:=qh hd;obtain⟨H,m,h2,h3⟩:∃ h:J<s.size,(((s[J]'h).toNat:Int) == 40)=true/\((s[J]'h).toNat == 40)=true/\((J:Nat):Int)<((s.size:Nat):Int):=by
    have m:=(hd.symm.trans MV.o).symm;rw[Bool.and_eq_true,decide_eq_true_iff,decide_eq_true_iff] at m;have h2:=m.2;rw[lV m.1] at h2;exact⟨m.1,by rw[h2];rfl,by rw[h2];rfl,by omega⟩
   clear hd;by_cases hy:gz t.tx=0/\kL t.tx=0/\t.tx≠AZ
   .have f:=qh (S.o.symm.trans (V5 HT.o HC.o H4.o PT.o HD.o hy.1 hy.2.1 hy.2.2));have aZ:=qh (HV.o▸VW g W1 t.tx hy.1 hy.2.1 hy.2.2);clear hy;go_wp2_with fail;refine aZ.o.mono ?_;rintro e w2 ⟨rfl,ac⟩;obtain⟨W3,a⟩:=boxed w2 67 Z8;have X:=qh (ac.trans (a.below.mono ac.size));have J6:=qh (HN.o W3 (yO.o.below X.o));have z:=qh a.eq;clear ac a;go_upto_region 16 with (fail);rw[<- z.o];clear z;go_wp2_with (go_at_call 254;(with_reducible refine J6.o.mono ?_);rintro e w5 ⟨rfl,DY,N⟩;have CY:=qh DY;have vS:=qh (((Kp.of n.o).bl X.o).trans N);have Z:=(F.o.kp vS.o (by omega)).cell;have rz:=(F.o.kp vS.o (by omega)).frozen;clear DY N);refine bodyPost_ret (v:=.agg #[bE bL 2,bE bL 0,bN v,bE bL 0,bE bL 0,bN ⟨#[]⟩,bO none 0 0,bO none 0 0]) (by simp[results,results319,go_sem,Z]) rfl ?_;obtain rfl:=HV.o;exact okP (f.o.trans (by rw[av.o,<- jr.o.2])) (uf (L:=W.heap.size) (x:=iy 2 0 t.tx []) (A:=none) (c:=0) (A':=none) (c':=0) (wX (B:=W.heap.size) (css:=[]) 2 0 t.tx (by unfold maxLen;omega) ⟨rfl,λ j h=>absurd h (by simp)⟩ (λ k hk=>hk) ⟨rfl,.inl ⟨rfl,rfl⟩⟩ (b4 _)) I G CY.o (d.trans vS.o))
   .have f:=qh (S.o.symm.trans (V6 HT.o HC.o H4.o PT.o HD.o hy));obtain⟨u,r',U,aq⟩:∃ u r',r=u :: r'/\u.tx = [40]:=by
     cases r with
     | nil=>have h:=HD.o;cases h
     | cons u r' =>
      have m:(decide (u.tx = [40]) && decide (u.at_=t.at_+t.tx.length))=true:=HD.o;rw[Bool.and_eq_true,decide_eq_true_iff] at m;exact⟨u,r',rfl,m.1⟩
    obtain⟨r2,o⟩:=af (qF s.data.toList.length t.tx r');have a1:=qh (o▸HV.o▸ZM g s i W1 yO.o (xK.o.below n.o) t u r' (by rw[Qz.o,U]) aq hy (λ L' h=>Hq.o L' (by rw[U];simp;omega)));have f:=qh (f.o.trans (show qF s.data.toList.length t.tx r.tail=r2 by rw[U];exact o));clear U aq hy o;go_wp2_with fail;refine a1.o.mono ?_;intro e w2 ag;cases r2 with
    | err k =>
     obtain⟨rfl,l⟩:=ag;go_wp2_with fail;exact⟨rfl,zy f.o ((d.bl n.o).trans l)⟩
    | ok es l1 =>
     obtain⟨y,i2,A1,c1,A2,c2,rfl,rfl,rfl,PV,aD,l⟩:=ag.Zn;obtain⟨W3,a⟩:=boxed w2 67 (EC y A1 c1 A2 c2);have ak:=l.size;have Bj:=qh (l.bl a.below);have ec:=a.blk.cell;have Z:=((F.o.below n.o F.o.lt).kp Bj.o (by omega)).cell;have rz:=((F.o.below n.o F.o.lt).kp Bj.o (by omega)).frozen;have ae:=qh ((((PV.o.imp (q:=λ b=>W.heap.size<=b) (λ k hk _=>by omega)).keep (aK.of a.below)).up a.below.size));have CZ:=qh (aD.o.below a.below);have z:=qh a.eq;clear a l ag;go_upto_region 16 with (fail);rw[<- z.o];clear z;go_wp2_with fail;refine bodyPost_ret (v:=.agg (EC y A1 c1 A2 c2)) (by simp[results,results319,go_sem,Z]) rfl ?_;exact okP f.o (uf ae.o I G CZ.o ((d.bl n.o).trans Bj.o))
theorem I9 (DL:FuncId) (Zc M:NT) (a9 b9:Int) (TB:List (ByteArray × Int)) (O:Nat) (N:TB.length=O) (bf:O<=3) (al:(TB.all λ d=>decide (d.1.data.toList≠[]))=true) (am:∀ l,qO l TB=fU a9 b9 l) (bk:∀ (a:Array Value) (W:World),(callFunc DL a).run lM W = .ok (.enter DL a) W) (n9:Nat) (hE:∀ G l,fU a9 b9 l=0->Pz n9 M G l = .ok G l) (hN:∀ G l,fU a9 b9 l≠0->Pz n9 M G l=(Pz n9 Zc [] l.tail).bind λ ab P=>Pz n9 M [jF (fU a9 b9 l) (G ++ ab)] P) (g:Nat) (s:ByteArray) (i:Nat) (w:World) (a4:n9=s.data.toList.length) (h:bI w g s i) (hm:TM w g) (L:List Tok) (hL:wordsOf s.data.toList i=L) (t:Nat) (ht:t≠g) (hT:ah w t 359 (lY TB).toArray) (hP:∀ L',L'.length<=L.length->fE DL Zc s L') :
  Calls lM 313 #[bR (some ⟨g,0,none⟩),bO (some ⟨t,0,none⟩) O O,.func (.func DL) #[bR (some ⟨g,0,none⟩)] #[]] w λ e w'=>yw w g s ((Pz s.data.toList.length Zc [] L).bind λ G P=>Pz s.data.toList.length M G P) e w':=by
 subst a4;have Hq:=qh hP;have D:=qh N;have aM:=qh al;have a6:=qh am;have a7:=qh hE;have aR:=qh hN;have aL:=h.b.lt;obtain⟨r,hr⟩:=af (Pz s.data.toList.length Zc [] L);obtain⟨W,hW⟩:=boxed w 67 Z8;have T:Kp g w W:=Kp.of hW.below;have ny:=qh (h.below hW.below);have aE:=qh hm;have H1:=qh (hr▸hP L (b3 _) g i W ny.o (hm.kp T) hL);have jT:=qh hW.blk;have a3:=hW.blk.lt;have oD:=qh hW.eq;have HR:=qh hr;have ZN:=qh hT;have a0:=qh ht;have be:=hT.lt;rw[hr];clear N al am hE hN hr hP h hm hT ht hL hW;go_enter func313,ntmps313;go_wp2_with fail;rw[<- oD.o];clear oD;refine H1.o.mono ?_;intro e I E;cases r with
 | err k =>
  obtain⟨rfl,n⟩:=E;go_wp2_with fail;exact⟨rfl,zy rfl (T.trans n)⟩
 | ok G P =>
  obtain⟨x,i1,A1,c1,A2,c2,rfl,rfl,rfl,Ar,yO,n⟩:=E.Zn;obtain⟨W1,j⟩:=boxed I 67 (EC x A1 c1 A2 c2);have bc:=qh (yO.o.below j.below);have DN:=qh ((T.trans n).bl j.below);have a1:=qh (jT.o.kp (n.bl j.below) (by omega));have aZ:=qh j.blk;have bl:=n.size;have aD:=qh (((Ar.o.imp (q:=λ b=>W.heap.size<=b/\b≠I.heap.size) (λ k F hl=>⟨F,by omega⟩)).keep (aK.of j.below)).up j.below.size);have bd:=j.size;have oD:=qh j.eq;obtain⟨R,hR⟩:=af (Pz s.data.toList.length M [x] (wordsOf s.data.toList i1));have a5:=qh hR.symm;have HG:=qh (show ((uT.ok [x] (wordsOf s.data.toList i1)).bind λ G P=>Pz s.data.toList.length M G P)=R from hR);have a2:=qh (vN HR.o);clear hR E n j;go_wp2_with fail;rw[<- oD.o];clear oD;go_loopw [8,10,15] (λ _ _ _ wr=>∃ (y:Ex) (A A':Option Addr) (c c' u:Nat),Hid (ah wr I.heap.size 67 (EC y A c A' c'))/\Hid (bY wr (λ b=>W.heap.size<=b/\b≠I.heap.size) wr.heap.size y (aA y A c A' c'))/\Hid (bI wr g s u)/\Hid (Kp g w wr)/\Hid (ah wr w.heap.size 67 Z8)/\Hid (R=Pz s.data.toList.length M [y] (wordsOf s.data.toList u))/\Hid ((wordsOf s.data.toList u).length<=L.length)) (λ _ _ _ wr=>afy wr g s)
  case atStart=>exact⟨x,A1,A2,c1,c2,i1,aZ,aD,bc,DN,a1,a5,a2⟩
  case round =>
   obtain⟨y,A,A',c,c',u,Y,HY,VK,Oo,JL,TC,J4⟩:=hrel;have ao:=qh (ZN.o.kp Oo.o a0.o);have ax:t<wr.heap.size:=ao.o.lt;have aw:=qh (λ (W':World) (hp:bI W' g s u) (word:ByteArray) (hw:word.data.toList≠[])=>(show Calls lM 289 #[bR (some ⟨g,0,none⟩),bN word] W' λ e w'=>e = bX (bS (lG (wordsOf s.data.toList u) word.data.toList))/\W'=w' from by
    have E:=vP g s u W' hp word.data.toList hw
    rwa [Y7] at E))
   obtain⟨LW,V⟩:=af (wordsOf s.data.toList u);have J5:=qh V;rw[V] at aw;clear V;go_wp2_with fail;go_loopw [8,10,15] (λ op _ ix wz=>∃ k:Nat,∃ o:Int,k<=O/\ix = bE bL k/\op = bE bL o/\Hid (o=qO LW (TB.take k))/\DD wr wz) (λ _ _ ix _=>O - (intOf ix).toNat)
   case atStart=>exact⟨0,0,b4 _,rfl,rfl,qh rfl,Below.refl _ _⟩
   case round =>
    obtain⟨k,o,F,rfl,rfl,aa,f⟩:=hrel;have mg:=f.size;have U:=qh (VK.o.below f);by_cases Zq:k<O
    .have p:k<TB.length:=by rw[D.o];exact Zq
     obtain⟨ad,ci,Z,-,ag,m⟩:=(vF (ao.o.below f ax) (b7 ax mg) (by rw[D.o];unfold maxLen;omega)).at_ p;injection Z with Z;subst Z;obtain⟨d,mY⟩:=af (TB[k]);have aq:d∈TB:=by rw[<- mY];exact List.getElem_mem p
     have ap:=qh (show qO LW (TB.take (k+1))=if lG LW d.1.data.toList then d.2 else qO LW (TB.take k) by rw[List.take_succ_eq_append_getElem p,mY,VL]);rw[mY] at ag;have aV:=qh Zq;have Q:d.1.data.toList≠[]:=by
      have h2:=List.all_eq_true.1 aM.o d aq
      rwa [decide_eq_true_iff] at h2
     obtain⟨dw,oq⟩:=d;obtain rfl:ci = [bN dw,bE bL oq]:=ag;have qi:wr.cell? ⟨t,k*2,none⟩=some (bN dw):=by have h:=m 0 _ rfl;simpa [addr_add] using h
     have qW:wr.cell? ⟨t,k*2+1,none⟩=some (bE bL oq):=by have h:=m 1 _ rfl;simpa [addr_add] using h
     have bm:(0:Int)<=(k:Nat):=by omega
     have n:((k:Nat):Int)<((O:Nat):Int):=by omega
     have ac:=qh (aw.o (wr.alloc (.cells #[bN dw,bE bL oq] 359 (0,0))) (U.o.alloc _) dw Q);obtain⟨b,hb⟩:=af (lG LW dw.data.toList);rw[show lG LW (dw,oq).1.data.toList=b from hb] at ap;rw[hb] at ac;clear m mY aq p Q hb;cases b
     all_goals
      go_wp2_with (go_at_call 289;(with_reducible refine ac.o.mono ?_);rintro e w3 ⟨rfl,rfl⟩);go_roundw
      case rel=>exact⟨k+1,_,aV.o,by go_num,rfl,qh (by rw[ap.o];first | rfl | exact aa.o),f.alloc mg _⟩
      case measure =>
       have:=aV.o;simp[intOf];omega
    .have H:=qh (show o=fU a9 b9 LW by
      have h:=aa.o;rw[List.take_of_length_le (show TB.length<=k by rw[D.o];omega)] at h;rw[h,a6.o])
     clear aa;have X:=qh (Y.o.below f Y.o.lt);have xw:=qh (JL.o.below f JL.o.lt);have ak:=qh ((HY.o.keep (aK.of f)).up f.size);have ng:=qh (Oo.o.bl f);by_cases ho:o=0
     .subst ho;have yc:=X.o.cell;have rc:=xw.o.cell;have rz:=xw.o.frozen;go_wp2_with fail;refine bodyPost_ret (v:=.agg (EC y A c A' c')) (by simp[results,results313,go_sem,rc]) rfl ?_;exact okP (HG.o.trans (by rw[TC.o,a7.o _ _ (by rw[J5.o];exact H.o.symm)])) (uf (ak.o.imp (λ k F _=>F.1)) a3 aL U.o ng.o)
     .have bb:=qh ho;have bo:(o == 0)=false:=by simp[ho]
      have S:=qE (s:=s) (i:=u) (by rw[J5.o];exact FQ (by rw[<- H.o];exact ho));have HN:=qh (next_any g s u wr U.o);obtain⟨i3,ae⟩:=af (bD s u+(bH s u).length);rw[ae] at HN S;have tY:=qh S;clear ae S ho;go_upto_region 12 with (go_at_call 254;(with_reducible refine HN.o.mono ?_);rintro e w4 ⟨rfl,tZ,ay⟩;have Dw:=qh tZ;have pK:=qh ay;clear tZ ay);obtain⟨r2,J⟩:=af (Pz s.data.toList.length Zc [] (wordsOf s.data.toList i3));have bj:=pK.o.size;have bh:=Y.o.lt;have a8:=qh (J▸Hq.o (wordsOf s.data.toList i3) (by have:=tY.o.2;have:=J4.o;rw[J5.o] at *;omega) g i3 w4.drew (Dw.o.below (Below.refl _ _).drew) (aE.o.kp (ng.o.trans pK.o).drw) rfl);have HE:=qh (show R=r2.bind λ ab P=>Pz s.data.toList.length M [jF o ([y] ++ ab)] P by
       rw[TC.o,aR.o _ _ (by rw[J5.o,<- H.o];exact bb.o),J5.o,<- H.o,<- J5.o,<- tY.o.1,J])
      have ba:=qh J;clear J;have ar:=qh (X.o.kp pK.o (by omega));refine Zo I.heap.size 67 (EC y A c A' c') I.heap.size 67 (EC y A c A' c') [0,2,5,6] (by kernel_rfl) ar.o ar.o (λ hS=>?_);refine tkW 0 rfl rfl (by kernel_rfl) (λ _ _ _ h=>h) rfl (λ _=>by go_simp;with_reducible rfl) ?_;refine tkW 2 rfl rfl (by kernel_rfl) (λ _ _ _ h=>h) rfl (λ _=>by go_simp;with_reducible rfl) ?_;refine tk2 1 hS rfl (by kernel_rfl) (λ _ _ _ h=>h) rfl (λ _ _ _=>by go_simp;with_reducible rfl) ?_;refine opE 3 ⟨by kernel_rfl,rfl⟩ rfl (λ K z=>?_)
      go_simp
      go_wp2_with fail;refine a8.o.mono ?_;intro e w5 h5;cases r2 with
      | err k2 =>
       obtain⟨rfl,C⟩:=h5;go_wp2_with fail;exact⟨rfl,zy (HG.o.trans HE.o) ((ng.o.trans pK.o.drw).trans C)⟩
      | ok es2 l2 =>
       obtain⟨y2,i4,A3,c3,A4,c4,rfl,rfl,rfl,LY,CY,C⟩:=h5.Zn;have vS:=qh (pK.o.drw.trans C);have bi:w4.heap.size<=w5.heap.size:=C.size;have bg:g<w5.heap.size:=CY.o.b.lt;have wW:=qh (X.o.kp vS.o (by omega));clear h5 C hS;go_wp2_with fail;refine z.o _ _ ⟨wW.o,wW.o⟩ ?_;clear z K;refine opE 4 ⟨by kernel_rfl,rfl⟩ rfl (λ K z=>?_)
       go_simp
       refine z.o _ _ ⟨wW.o.alloc _,wW.o.alloc _⟩ ?_;clear z K;refine opL 5 ⟨by kernel_rfl,rfl⟩ rfl (λ K z=>?_)
       go_simp
       go_wp2_with fail;refine (gG o _ 2 2 _).mono ?_;rintro e w6 ⟨rfl,B⟩;have B6:=(wW.o.alloc (.cells (aA y A c A' c' ++ aA y2 A3 c3 A4 c4).toArray 67 (0,0))).below B (wW.o.alloc _).lt;have qc:=B6.cell;have qz:=B6.frozen;go_wp2_with fail;refine z.o _ _ ?_;clear z K;refine opL 6 ⟨by kernel_rfl,rfl⟩ rfl (λ K z=>?_)
       go_simp
       refine z.o _ _ ?_;clear z K;refine ac2 (by kernel_rfl) ?_ _;have BB:=(xw.o.kp vS.o (by omega)).alloc (.cells (aA y A c A' c' ++ aA y2 A3 c3 A4 c4).toArray 67 (0,0));have MW:=qh ((BB.below B BB.lt).s8 (b:=I.heap.size) (by omega) (bE bL 4) (bE bL o) (bN ⟨#[]⟩) (bE bL 0) (bE bL 0) (bN ⟨#[]⟩) (bO none 0 0) (bO (some ⟨w5.heap.size,0,none⟩) 2 2));clear BB;have av:=qh (((CY.o.alloc (.cells (aA y A c A' c' ++ aA y2 A3 c3 A4 c4).toArray 67 (0,0))).below B).kp (eG w6 I.heap.size (bE bL 4) (bE bL o) (bN ⟨#[]⟩) (bE bL 0) (bE bL 0) (bN ⟨#[]⟩) (bO none 0 0) (bO (some ⟨w5.heap.size,0,none⟩) 2 2) g (by omega)));have an:=qh (show (wordsOf s.data.toList i4).length<(wordsOf s.data.toList u).length by
        have E:=vN ba.o;have h2:=tY.o.2;omega)
       try go_wp2_with fail
       go_roundw
       case rel=>exact⟨jF o [y,y2],none,some ⟨w5.heap.size,0,none⟩,0,2,i4,qh (zq B6 _ _ _ _ _ _ _ _),
        qh (DZ (b:=I.heap.size) (Zj o (ak.o.kpq vS.o (λ k F=>by omega)) (LY.o.imp (λ k F _=>by simp at F;exact⟨by omega,by omega⟩)) B (λ k F=>⟨by omega,by omega⟩)) (λ k F=>F.2) _ _ _ _ _ _ _ _),
        av,qh (tX (((ng.o.trans vS.o).alloc _).bl B) (by omega) _ _ _ _ _ _ _ _),MW,HE,qh (by have E:=an.o;have h2:=J4.o;omega)⟩
       case measure =>
        have E:=an.o;rw[<- Zi av.o,<- Zi VK.o] at E;exact E
theorem Ro (g:Nat) (s:ByteArray) (i:Nat) (w:World) (h:bI w g s i) (j:TM w g) (L:List Tok) (m:wordsOf s.data.toList i=L) (t:Nat) (f:t≠g) (k:ah w t 359 (lY iL).toArray) (d:∀ L',L'.length<=L.length->fE 314 .product s L') :
  Calls lM 313 #[bR (some ⟨g,0,none⟩),bO (some ⟨t,0,none⟩) 2 2,.func (.func 314) #[bR (some ⟨g,0,none⟩)] #[]] w λ e w'=>yw w g s ((Pz s.data.toList.length .product [] L).bind λ b c=>Pz s.data.toList.length .Dp b c) e w':=
 I9 314 .product .Dp 15 16 iL 2 rfl (by decide) (by decide) VM (λ a W=>by simp[callFunc,go_sem,func314,Tryz.f314]) s.data.toList.length (λ b l h=>by
  rw[gY];dsimp only[iC];rw[if_pos h]) (λ b l h=>by
  rw[gY];dsimp only[iC];rw[if_neg h]) g s i w rfl h j L m t f k d
theorem OT (g:Nat) (s:ByteArray) (i:Nat) (w:World) (h:bI w g s i) (j:TM w g) (L:List Tok) (m:wordsOf s.data.toList i=L) (t:Nat) (f:t≠g) (k:ah w t 359 (lY iM).toArray) (d:∀ L',L'.length<=L.length->fE 317 .minus s L') :
  Calls lM 313 #[bR (some ⟨g,0,none⟩),bO (some ⟨t,0,none⟩) 3 3,.func (.func 317) #[bR (some ⟨g,0,none⟩)] #[]] w λ e w'=>yw w g s ((Pz s.data.toList.length .minus [] L).bind λ b c=>Pz s.data.toList.length .ji b c) e w':=
 I9 317 .minus .ji 17 19 iM 3 rfl (by decide) (by decide) VN (λ a W=>by simp[callFunc,go_sem,func317,Tryz.f317]) s.data.toList.length (λ b l h=>by
  rw[gY];dsimp only[iC];rw[if_pos h]) (λ b l h=>by
  rw[gY];dsimp only[iC];rw[if_neg h]) g s i w rfl h j L m t f k d
theorem ZO (s:ByteArray) (L:List Tok) (h:∀ L',L'.length<=L.length->fE 314 .product s L'):fE 304 .sum s L:=by
 intro g i w q A E;have l:=qh (λ W t (o:bI W g s i) (p:TM W g) (J:t≠g) hT=>Ro g s i W o p L E t J hT h);rw[show ((Pz s.data.toList.length .product [] L).bind λ z y=>Pz s.data.toList.length .Dp z y)=Pz s.data.toList.length .sum [] L from by rw[gY _ .sum];rfl] at l;have m:=q.b.lt;obtain⟨r,G⟩:=af (Pz s.data.toList.length .sum [] L);rw[G] at l ⊢;obtain⟨W,d⟩:=boxed w 67 Z8;have c:Kp g w W:=Kp.of d.below;have F:=qh (q.below d.below);have P:=qh (A.kp c);have D:=qh d.blk;have O:=d.blk.lt;have C:=qh d.eq;clear q A G d E;go_enter func304,ntmps304;go_upto_region 1 with (fail);rw[<- C.o];clear C;go_wp2_with fail;refine (VP W).mono ?_;rintro e u ⟨rfl,j,b⟩;have n:=qh j;have f:=qh b;have I:=b.size;have N:g<W.heap.size:=F.o.b.lt;clear j b;go_wp2_with fail;refine (l.o u W.heap.size (F.o.below f.o) (P.o.below f.o) (by omega) n.o).mono ?_;intro e R B;cases r with
 | err k =>
  obtain⟨rfl,a⟩:=B;go_wp2_with fail;exact⟨rfl,zy rfl ((c.bl f.o).trans a)⟩
 | ok z y =>
  obtain⟨x,Q,A1,c1,A2,c2,rfl,rfl,rfl,H,M,a⟩:=B.Zn;have B1:=(D.o.below f.o D.o.lt).kp a (by omega);have K:=B1.cell;have S:=B1.frozen;go_wp2_with fail;refine bodyPost_ret (v:=.agg (EC x A1 c1 A2 c2)) (by simp[results,results304,go_sem,K]) rfl ?_;exact uf (L:=u.heap.size) H.o (by omega) m M.o ((c.bl f.o).trans a)
theorem Kq (s:ByteArray) (L:List Tok) (h:∀ L',L'.length<=L.length->fE 317 .minus s L'):fE 314 .product s L:=by
 intro g i w q A E;have l:=qh (λ W t (o:bI W g s i) (p:TM W g) (J:t≠g) hT=>OT g s i W o p L E t J hT h);rw[show ((Pz s.data.toList.length .minus [] L).bind λ z y=>Pz s.data.toList.length .ji z y)=Pz s.data.toList.length .product [] L from by rw[gY _ .product];rfl] at l;have m:=q.b.lt;obtain⟨r,G⟩:=af (Pz s.data.toList.length .product [] L);rw[G] at l ⊢;obtain⟨W,d⟩:=boxed w 67 Z8;have c:Kp g w W:=Kp.of d.below;have F:=qh (q.below d.below);have P:=qh (A.kp c);have D:=qh d.blk;have O:=d.blk.lt;have C:=qh d.eq;clear q A G d E;go_enter func314,ntmps314;go_upto_region 1 with (fail);rw[<- C.o];clear C;go_wp2_with fail;refine (VQ W).mono ?_;rintro e u ⟨rfl,j,b⟩;have n:=qh j;have f:=qh b;have I:=b.size;have N:g<W.heap.size:=F.o.b.lt;clear j b;go_wp2_with fail;refine (l.o u W.heap.size (F.o.below f.o) (P.o.below f.o) (by omega) n.o).mono ?_;intro e R B;cases r with
 | err k =>
  obtain⟨rfl,a⟩:=B;go_wp2_with fail;exact⟨rfl,zy rfl ((c.bl f.o).trans a)⟩
 | ok z y =>
  obtain⟨x,Q,A1,c1,A2,c2,rfl,rfl,rfl,H,M,a⟩:=B.Zn;have B1:=(D.o.below f.o D.o.lt).kp a (by omega);have K:=B1.cell;have S:=B1.frozen;go_wp2_with fail;refine bodyPost_ret (v:=.agg (EC x A1 c1 A2 c2)) (by simp[results,results314,go_sem,K]) rfl ?_;exact uf (L:=u.heap.size) H.o (by omega) m M.o ((c.bl f.o).trans a)
end
section
open Go.RowKit Vtx
structure anC (s:ByteArray) (m:Nat):Prop where
 or:∀ L,jK .or L<=m->fE 255 .or s L
 and:∀ L,jK .and L<=m->fE 271 .and s L
 not:∀ L,jK .not L<=m->fE 291 .not s L
 sum:∀ L,jK .sum L<=m->fE 304 .sum s L
 product:∀ L,jK .product L<=m->fE 314 .product s L
 minus:∀ L,jK .minus L<=m->fE 317 .minus s L
 eY:∀ L,jK .eY L<=m->fE 319 .eY s L
theorem TK (s:ByteArray):∀ m,anC s m
 | 0=>⟨λ L h=>by simp[jK,fV] at h,λ L h=>by simp[jK,fV] at h,λ L h=>by simp[jK,fV] at h,λ L h=>by simp[jK,fV] at h,λ L h=>by simp[jK,fV] at h,λ L h=>by simp[jK,fV] at h,λ L h=>by simp[jK,fV] at h⟩
 | m+1=>by
  have a:=TK s m;refine⟨λ L h=>?_,λ L h=>?_,λ L h=>?_,λ L h=>?_,λ L h=>?_,λ L h=>?_,λ L h=>?_⟩ <;> simp only[jK,fV] at h
  .exact acZ s L (λ L' b=>a.and L' (by simp only[jK,fV];omega))
  .exact Zk s L (λ L' b=>a.not L' (by simp only[jK,fV];omega))
  .exact Zp s L (λ L' b=>a.not L' (by simp only[jK,fV];omega)) (λ L' b=>a.sum L' (by simp only[jK,fV];omega))
  .exact ZO s L (λ L' b=>a.product L' (by simp only[jK,fV];omega))
  .exact Kq s L (λ L' b=>a.minus L' (by simp only[jK,fV];omega))
  .exact Rf s L (λ L' b=>a.minus L' (by simp only[jK,fV];omega)) (a.eY L (by simp only[jK,fV];omega))
  .exact Ko s L (λ L' b=>a.or L' (by simp only[jK,fV];omega))
theorem afZ (s:ByteArray) (L:List Tok):fE 255 .or s L:=(TK s (jK .or L)).or L (b3 _)
attribute [local go_sem ↓] Go.wp_at_zero Go.wp_at_succ
structure St (w0:World) (b0 b1 b2:Nat) (a0:Array Value) (x1 x2:Value) (w:World):Prop where
 c0:ah w b0 67 a0
 c1:ah w b1 3 #[x1]
 c2:ah w b2 28 #[x2]
 os:w.os=w0.os
 tape:w.tape=w0.tape
 output:w.output=w0.output
 size:w0.heap.size<=w.heap.size
 far:∀ k,k<w0.heap.size->k≠b0->k≠b1->k≠b2->w.heap[k]?=w0.heap[k]?
theorem St.set0 {l w:World} {a b1 b2:Nat} {u0 u1 u2 u3 u4 u5 u6 u7 j m:Value} (h:St l a b1 b2 #[u0,u1,u2,u3,u4,u5,u6,u7] j m w) (r:a≠b1) (q:a≠b2) (v0 v1 v2 v3 d v5 v6 v7:Value):St l a b1 b2 #[v0,v1,v2,v3,d,v5,v6,v7] j m (kR w a v0 v1 v2 v3 d v5 v6 v7):=by
 have b:∀ k,k≠a->(kR w a v0 v1 v2 v3 d v5 v6 v7).heap[k]?=w.heap[k]?:=λ k s=>eG _ _ _ _ _ _ _ _ _ _ k s;have p:∀ (w':World) (i:Nat) (v:Value),(w'.setCell ⟨a,i,none⟩ v).os=w'.os:=λ _ _ _=>rfl;have n:∀ (w':World) (i:Nat) (v:Value),(w'.setCell ⟨a,i,none⟩ v).tape=w'.tape:=λ _ _ _=>rfl;have o:∀ (w':World) (i:Nat) (v:Value),(w'.setCell ⟨a,i,none⟩ v).output=w'.output:=λ _ _ _=>rfl;exact⟨zq h.c0 v0 v1 v2 v3 d v5 v6 v7,by (try unfold ZB);unfold ah;rw[b _ (λ e=>r e.symm)];exact h.c1,by (try unfold ZB);unfold ah;rw[b _ (λ e=>q e.symm)];exact h.c2,by simp only[kR,p];exact h.os,by simp only[kR,n];exact h.tape,by simp only[kR,o];exact h.output,by rw[jl];exact h.size,λ k t c f g=>by rw[b k c];exact h.far k t c f g⟩
theorem St.set1 {g w:World} {c b1 b2:Nat} {j:Array Value} {l i:Value} (h:St g c b1 b2 j l i w) (n:c≠b1) (m:b1≠b2) (v:Value):St g c b1 b2 j v i (w.setCell ⟨b1,0,none⟩ v):=by
 have a:∀ k,k≠b1->(w.setCell ⟨b1,0,none⟩ v).heap[k]?=w.heap[k]?:=λ k o=>Below.heap_setCell w ⟨b1,0,none⟩ v k o;exact⟨by (try unfold ZB);unfold ah;rw[a _ n];exact h.c0,by simpa using h.c1.bP 0 v,by (try unfold ZB);unfold ah;rw[a _ (λ e=>m e.symm)];exact h.c2,h.os,h.tape,h.output,by simp[World.setCell];exact h.size,λ k p d b f=>by rw[a k b];exact h.far k p d b f⟩
theorem St.set2 {g w:World} {c b1 b2:Nat} {i:Array Value} {f j:Value} (h:St g c b1 b2 i f j w) (m:c≠b2) (l:b1≠b2) (v:Value):St g c b1 b2 i f v (w.setCell ⟨b2,0,none⟩ v):=by
 have a:∀ k,k≠b2->(w.setCell ⟨b2,0,none⟩ v).heap[k]?=w.heap[k]?:=λ k n=>Below.heap_setCell w ⟨b2,0,none⟩ v k n;exact⟨by (try unfold ZB);unfold ah;rw[a _ m];exact h.c0,by (try unfold ZB);unfold ah;rw[a _ l];exact h.c1,by simpa using h.c2.bP 0 v,h.os,h.tape,h.output,by simp[World.setCell];exact h.size,λ k o e d b=>by rw[a k b];exact h.far k o e d b⟩
theorem St.below {f w w':World} {e b1 b2:Nat} {i:Array Value} {j g:Value} (h:St f e b1 b2 i j g w) (a:DD w w'):St f e b1 b2 i j g w':=
 ⟨h.c0.below a h.c0.lt,h.c1.below a h.c1.lt,h.c2.below a h.c2.lt,a.os.trans h.os,a.tape.trans h.tape,a.output.trans h.output,b6 h.size a.size,λ k l c b d=>(a.block k (b7 l h.size)).trans (h.far k l c b d)⟩
theorem St.toBelow {a w:World} {b b1 b2 B:Nat} {d:Array Value} {e c:Value} (h:St a b b1 b2 d e c w) (j:B<=a.heap.size) (f:B<=b) (l:B<=b1) (g:B<=b2):Below B a w:=
 ⟨h.os,h.tape,h.output,h.size,λ k i=>h.far k (by omega) (by omega) (by omega) (by omega)⟩
theorem Ja (w:World) (b0 b1 b2 k:Nat) (d:b0≠b1) (f:b0≠b2) (c:b1≠b2) (u0 u1 u2 u3 u4 u5 u6 u7 x1 x2:Value) (a:List PanicEntry) (h:St w b0 b1 b2 #[u0,u1,u2,u3,u4,u5,u6,u7] x1 x2 w) :
  CallsD lM 253 #[bR (some ⟨b0,0,none⟩),bR (some ⟨b1,0,none⟩),bR (some ⟨b2,0,none⟩)] (.panicking ({ v:=.iface 342 (.agg #[bE bL (k:Nat)]),recovered:=false } :: a)) w λ e o w' =>
   e = bX (.tuple #[])/\o = .panicking ({ v:=.iface 342 (.agg #[bE bL (k:Nat)]),recovered:=true } :: a)/\St w b0 b1 b2 #[bE bL 0,bE bL 0,bN ⟨#[]⟩,bE bL 0,bE bL 0,bN ⟨#[]⟩,bO none 0 0,bO none 0 0] (bE bL (k:Nat)) (bE bL 10) w':=by
 have n:∀ (v:Value) (W:World),(Instr.typeAssert (.iface 342 v) 20 342 true).run lM W = .ok (.tuple #[v,bS true]) W:=λ _ _=>by kernel_rfl
 have g:=qh h;clear h;refine callsD_of_wpS func253 rfl λ L cs x=>?_;apply wpS_seq;apply wpS_region;simp[wpOpsS,go_sem,recoverD,x,ntmps253,Exit.thenS];refine wpS_of_wp ?_;simp only[show (Array.replicate 17 undef:Array Value) = #[undef,undef,undef,undef,undef,undef,undef,undef,undef,undef,undef,undef,undef,undef,undef,undef,undef] from rfl,List.setIfInBounds_toArray,List.set_cons_zero,List.set_cons_succ,List.append_toArray,List.cons_append,List.nil_append];have B0:=g.o.c0;have B1:=g.o.c1;have B2:=g.o.c2;have l:w.heap.size≠b0:=by have:=B0.lt;omega
 have u:w.heap.size≠b1:=by have:=B1.lt;omega
 have y:w.heap.size≠b2:=by have:=B2.lt;omega
 go_upto_region 5 with (fail);obtain⟨W,i⟩:=aG (w.alloc (.cells #[bE bL (k:Nat)] 342 (0,0)));have b:=qh (show St w b0 b1 b2 #[u0,u1,u2,u3,u4,u5,u6,u7] x1 x2 W by rw[i];exact g.o.below ((Below.refl _ _).alloc (b3 _) _));have p:ah W w.heap.size 342 #[bE bL (k:Nat)]:=by rw[i];exact ah.new w _ _
 have m:W.cell? ⟨w.heap.size,0,none⟩=some (bE bL (k:Nat)):=p.cell 0;rw[<- i];clear i B0 B1 B2;have B0:=b.o.c0;have B1:=b.o.c1;have B2:=b.o.c2;obtain⟨I,N,K,O,M,H,z,E,G,B,J,P,D,C,A,F⟩:=ah.z8 B0;have t:W.cell? ⟨b1,0,none⟩=some x1:=B1.cell 0;have r:W.frozen? ⟨b1,0,none⟩=false:=B1.frozen 0;have q:W.cell? ⟨b2,0,none⟩=some x2:=B2.cell 0;have s:W.frozen? ⟨b2,0,none⟩=false:=B2.frozen 0;go_region;have j:=qh ((((b.o.set0 d f (bE bL 0) (bE bL 0) (bN ⟨#[]⟩) (bE bL 0) (bE bL 0) (bN ⟨#[]⟩) (bO none 0 0) (bO none 0 0)).set1 d c (bE bL (k:Nat))).set2 f c (bE bL 10)).below (Below.refl _ _).drew);go_wp2_with fail;exact⟨rfl,_,rfl,.tuple #[],by simp[results,results253,go_sem],rfl,rfl,j.o⟩
theorem ZP (d g f:Addr) (w:World) :
  CallsD lM 253 #[bR (some d),bR (some g),bR (some f)] .returning w λ e a w'=>e = bX (.tuple #[])/\a = .returning/\w'=w:=by
 refine callsD_of_wpS func253 rfl λ b cs c=>?_;apply wpS_seq;apply wpS_region;simp[wpOpsS,go_sem,recoverD,c,ntmps253,Exit.thenS];refine wpS_of_wp ?_;simp only[show (Array.replicate 17 undef:Array Value) = #[undef,undef,undef,undef,undef,undef,undef,undef,undef,undef,undef,undef,undef,undef,undef,undef,undef] from rfl,List.setIfInBounds_toArray,List.set_cons_zero,List.set_cons_succ,List.append_toArray,List.cons_append,List.nil_append];go_wp2_with fail;cases b;simp_all[bodyPostS,results,results253]
end
open Go.RowKit Vtx
theorem ZQ (g:Nat) (s:ByteArray) (A:Nat) (u:ByteArray) (d0:Bool) (w:World) (hb:ah w g 346 #[bN s,bE bL (A:Nat),bN u,bS d0]) (b:A+u.size<=s.size) (U:s.size<=4000) :
  Calls lM 254 #[bR (some ⟨g,0,none⟩)] w λ e w'=>e = bX (.tuple #[])/\bI w' g s (A+u.size)/\Kp g w w':=by
 have M:=qh hb;obtain⟨E,hE⟩:=af (A+u.size);rw[hE] at b ⊢;have r:E<=E/\E<=s.size:=⟨b3 _,b⟩;obtain⟨J,hJ⟩:=aG (E+bQ bF (s.data.toList.drop E));have an:J<=s.size:=by
  have h1:=qo bF (s.data.toList.drop E);rw[List.length_drop,aN] at h1;omega
 obtain⟨T,hT⟩:=af (fD s E);have HJ:=qh hJ;have R:=qh hT;have j:w.cell? ⟨g,0,none⟩=some (bN s):=M.o.cell 0;have c1:w.cell? ⟨g,1,none⟩=some (bE bL (A:Nat)):=M.o.cell 1;have c2:w.cell? ⟨g,2,none⟩=some (bN u):=M.o.cell 2;have K:((A:Nat):Int)+(u.size:Nat)=(E:Nat):=by omega
 have aa:IntKind.i64.wrap (((A:Nat):Int)+(u.size:Nat))=(E:Nat):=by rw[K];exact IntWalk.i64_in _ (by omega)
 clear hJ hT hE hb b;go_enter func254,ntmps254;go_upto_region 0 with (fail);go_quiet (fail);obtain⟨W,O⟩:=aG (w.drewN nq);have F:=qh (show Kp g w W by rw[O];exact Tz (zo g w) nq);have H:=qh (show ah W g 346 #[bN s,bE bL (A:Nat),bN u,bS d0] by rw[O];exact M.o.drewN nq);rw[<- O];clear j c1 c2 O K aa;have j:W.cell? ⟨g,0,none⟩=some (bN s):=H.o.cell 0;have z3:W.frozen? ⟨g,3,none⟩=false:=H.o.frozen 3;have c3:W.cell? ⟨g,3,none⟩=some (bS d0):=H.o.cell 3;go_wp2_with fail
 go_loop [3] (λ x=>∃ n:Nat,E<=n/\n<=s.size/\x = bE bL n/\Hid (J=n+bQ bF (s.data.toList.drop n))) (λ x=>s.size - (intOf x).toNat)
 case atStart=>exact⟨E,b3 _,r.2,rfl,HJ⟩
 case round =>
  obtain⟨n,ad,hn,rfl,Z⟩:=hrel;by_cases hlt:n<s.size
  .have aV:=qh hlt;by_cases h32:s[n].toNat=32
   .have HG:=qh (kX hlt (show bF s[n]=true from decide_eq_true ((toNat_eq s[n] 32 (by decide)).2 h32)) Z.o);have b1:((s[n].toNat:Int) == 32)=true:=by simp;omega
    clear h32;go_wp2_with fail
    go_round
    case rel=>exact⟨n+1,by omega,aV.o,by go_num,HG⟩
    case measure =>
     have:=aV.o;simp[intOf];omega
   .have B:=mQ hlt (show bF s[n]=false from decide_eq_false (λ e=>h32 ((toNat_eq s[n] 32 (by decide)).1 e))) Z.o;have b1:((s[n].toNat:Int) == 32)=false:=by simp;omega
    obtain⟨f,L,z⟩:=Oj HJ.o (by rw[B];exact hlt);subst B;have p:=qh (R.o.symm.trans z);have D:=qh (And.intro f L);clear h32 f L z;go_upto_region 4 with (fail);go_cut [3] (λ x wc=>x = bE bL (J:Nat)/\wc=W.setCell ⟨g,3,none⟩ (bS T))
    case first =>
     by_cases hJE:J=E
     .subst hJE;have l:(((J:Nat):Int) == ((J:Nat):Int))=true:=by simp
      by_cases b:0<J
      .have ac:J - 1<s.size:=by omega
       obtain⟨b1,k⟩:=af (gp s[J - 1]);obtain⟨b2,m⟩:=af (gp (s[J]'hlt));have o:=qh (show T=(b1 && b2) by rw[p.o,lV ac,lV hlt,k,m,decide_eq_true b];simp);have v:=qh (show Calls lM 57 #[.int .u8 (s[J - 1].toNat:Nat)] W λ e c=>e = bX (bS b1)/\W=c from by
        exact (iR s[J - 1] W).mono λ e c ⟨V,hw⟩=>⟨V.trans (congrArg (λ x=>ca (bS x)) k),hw⟩)
       have C:=qh (show Calls lM 57 #[.int .u8 ((s[J]'hlt).toNat:Nat)] W λ e c=>e = bX (bS b2)/\W=c from by
        exact (iR (s[J]'hlt) W).mono λ e c ⟨V,hw⟩=>⟨V.trans (congrArg (λ x=>ca (bS x)) m),hw⟩)
       have I:((J:Nat):Int) - 1=((J - 1:Nat):Int):=by omega
       have ap:IntKind.i64.wrap (((J:Nat):Int) - 1)=((J - 1:Nat):Int):=by rw[I];exact IntWalk.i64_in _ (by omega)
       have Y:(0:Int)<((J:Nat):Int):=by omega
       clear k m I;cases b1
       .go_wp2_with (go_at_call 57;(with_reducible refine v.o.mono ?_);rintro e G ⟨rfl,rfl⟩)
        go_meet
        exact⟨rfl,by rw[o.o];rfl⟩
       .cases b2
        .go_wp2_with (first | (go_at_call 57;(with_reducible refine v.o.mono ?_);rintro e G ⟨rfl,rfl⟩) | (go_at_call 57;(with_reducible refine C.o.mono ?_);rintro e G ⟨rfl,rfl⟩))
         go_meet
         exact⟨rfl,by rw[o.o];rfl⟩
        .go_wp2_with (first | (go_at_call 57;(with_reducible refine v.o.mono ?_);rintro e G ⟨rfl,rfl⟩) | (go_at_call 57;(with_reducible refine C.o.mono ?_);rintro e G ⟨rfl,rfl⟩))
         go_meet
         exact⟨rfl,by rw[o.o];rfl⟩
      .have o:=qh (show T=false by rw[p.o,decide_eq_false b];simp);have X:¬ (0:Int)<((J:Nat):Int):=by omega
       go_wp2_with fail
       go_meet
       exact⟨rfl,by rw[o.o]⟩
     .have o:=qh (show T=false by rw[p.o,decide_eq_false hJE];simp);have l:(((J:Nat):Int) == ((E:Nat):Int))=false:=by simp;omega
      have ab:(J == E)=false:=by simp;omega
      go_wp2_with fail
      go_meet
      exact⟨rfl,by rw[o.o]⟩
    case rest =>
    obtain⟨rfl,rfl⟩:=hcut;have q:=acS H.o (bS T);obtain⟨d,i⟩:=aG (W.setCell ⟨g,3,none⟩ (bS T));have pK:=qh (show Kp g w d by rw[i];exact F.o.set 3 _);rw[<- i] at q;have a:=qh q;rw[<- i];clear q i j z3 c3;have j:d.cell? ⟨g,0,none⟩=some (bN s):=a.o.cell 0;have c1:d.cell? ⟨g,1,none⟩=some (bE bL (A:Nat)):=a.o.cell 1;have c2:d.cell? ⟨g,2,none⟩=some (bN u):=a.o.cell 2;have z1:d.frozen? ⟨g,1,none⟩=false:=a.o.frozen 1;have z2:d.frozen? ⟨g,2,none⟩=false:=a.o.frozen 2;have hL:=xY (s.data.toList.drop J);rw[List.length_drop,aN] at hL;obtain⟨N,S⟩:=af (J+dh (s.data.toList.drop J));have HN:=qh S;have ak:(0:Int)<=((J:Nat):Int):=by omega
    have ao:((J:Nat):Int)<=((N:Nat):Int):=by omega
    have al:((N:Nat):Int)<=((s.size:Nat):Int):=by omega
    have ae:J<=N:=by omega
    have am:N<=s.size:=by omega
    have VJ:((J:Nat):Int)<((s.size:Nat):Int):=by omega
    have oD:=qh (λ (w':World) (hc:w'.cell? ⟨g,0,none⟩=some (bN s))=>(show Calls lM 269 #[bR (some ⟨g,0,none⟩),bE bL (J:Nat)] w' λ e c=>e = bX (bE bL (N:Nat))/\w'=c from by
     have h:=CV g s J w' hc hlt U
     rwa [S] at h))
    clear hL S;go_upto_region 7 with (fail);obtain⟨y,Q⟩:=aG ((d.setCell ⟨g,1,none⟩ (bE bL (J:Nat))).setCell ⟨g,2,none⟩ (bN ⟨#[]⟩));have P:=qh (show ah y g 346 #[bN s,bE bL (J:Nat),bN ⟨#[]⟩,bS T] by rw[Q];exact VI (acT a.o _) _);have vS:=qh (show Kp g w y by rw[Q];exact (pK.o.set 1 _).set 2 _);rw[<- Q];clear Q j c1 c2 z1 z2;have j:y.cell? ⟨g,0,none⟩=some (bN s):=P.o.cell 0;have c2:y.cell? ⟨g,2,none⟩=some (bN ⟨#[]⟩):=P.o.cell 2;have z2:y.frozen? ⟨g,2,none⟩=false:=P.o.frozen 2;go_region_with (go_at_call 269;(with_reducible refine (oD.o _ (by simpa using j)).mono ?_);rintro e G ⟨rfl,rfl⟩)
    all_goals
     go_wp2_with fail;go_end0;refine⟨rfl,⟨?_,r.2,U⟩,(vS.o.set 2 _).trans (Kp.of (Below.refl _ _).drew)⟩;rw[D.o.1,D.o.2,R.o,<- QR,HN.o];exact (VI P.o _).drew
  .have B:=pJ hlt Z.o;obtain⟨f,L,z⟩:=Ol HJ.o (by rw[B];exact hlt);have t:n=s.size:=by omega
   subst B;have PW:=qh (R.o.symm.trans z);have D:=qh (And.intro (f.trans t.symm) L);have ag:=qh t;have VJ:¬ ((J:Nat):Int)<((s.size:Nat):Int):=by omega
   clear f L z t;go_upto_region 4 with (fail);go_cut [3] (λ x wc=>x = bE bL (J:Nat)/\wc=W.setCell ⟨g,3,none⟩ (bS T))
   case first =>
    by_cases hJE:J=E
    .subst hJE;have l:(((J:Nat):Int) == ((J:Nat):Int))=true:=by simp
     by_cases b:0<J
     .have Y:(0:Int)<((J:Nat):Int):=by omega
      go_wp2_with fail
      go_meet
      exact⟨rfl,by rw[PW.o]⟩
     .have X:¬ (0:Int)<((J:Nat):Int):=by omega
      go_wp2_with fail
      go_meet
      exact⟨rfl,by rw[PW.o]⟩
    .have l:(((J:Nat):Int) == ((E:Nat):Int))=false:=by simp;omega
     have ab:(J == E)=false:=by simp;omega
     go_wp2_with fail
     go_meet
     exact⟨rfl,by rw[PW.o]⟩
   case rest =>
   obtain⟨rfl,rfl⟩:=hcut;have q:=acS H.o (bS T);obtain⟨d,i⟩:=aG (W.setCell ⟨g,3,none⟩ (bS T));have pK:=qh (show Kp g w d by rw[i];exact F.o.set 3 _);rw[<- i] at q;have a:=qh q;rw[<- i];clear q i j z3 c3;have j:d.cell? ⟨g,0,none⟩=some (bN s):=a.o.cell 0;have c1:d.cell? ⟨g,1,none⟩=some (bE bL (A:Nat)):=a.o.cell 1;have c2:d.cell? ⟨g,2,none⟩=some (bN u):=a.o.cell 2;have z1:d.frozen? ⟨g,1,none⟩=false:=a.o.frozen 1;have z2:d.frozen? ⟨g,2,none⟩=false:=a.o.frozen 2;go_wp2_with fail;go_end0;refine⟨rfl,⟨?_,r.2,U⟩,(pK.o.set 1 _).set 2 _⟩;rw[D.o.1,D.o.2,R.o];exact VI (acT a.o _) _
attribute [local go_sem ↓] Go.wp_at_zero Go.wp_at_succ
def ZR (w:World) (s:ByteArray) (r:uT) (e:Ending) (w':World):Prop:=match r with
 | .ok es []=>∃ x cs,es = [x]/\e = bX (.tuple #[.agg cs.toArray,bE bL 0,bE bL 0])/\bY w' (λ b=>w.heap.size<=b) w'.heap.size x cs/\DD w w'
 | .ok _ (t :: _)=>e = bX (.tuple #[.agg #[bE bL 0,bE bL 0,bN ⟨#[]⟩,bE bL 0,bE bL 0,bN ⟨#[]⟩,bO none 0 0,bO none 0 0],bE bL (t.at_:Nat),bE bL 10])/\DD w w'
 | .err k=>e = bX (.tuple #[.agg #[bE bL 0,bE bL 0,bN ⟨#[]⟩,bE bL 0,bE bL 0,bN ⟨#[]⟩,bO none 0 0,bO none 0 0],bE bL (k:Nat),bE bL 10])/\DD w w'
theorem V7 (s:ByteArray) (w:World) (hs:s.size<=4000) (L:Tab w) (hm:Mx w):Calls lM 232 #[bN s] w λ e w'=>ZR w s (Pz s.data.toList.length .or [] (wordsOf s.data.toList 0)) e w':=by
 have bm:∀ (fn:Fn) (first av:Array Value) (w:World),(Instr.makeFunc fn first av).run lM w = .ok (.func fn first av) w:=λ _ _ _ _=>rfl;have jU:=qh (And.intro L hm);obtain⟨r,hr⟩:=af (Pz s.data.toList.length .or [] (wordsOf s.data.toList 0));rw[hr];have HR:=qh hr;clear L hm hr
 go_enter_defers func232,ntmps232
 go_upto_region 3 with (fail);obtain⟨b1,aa⟩:=af (w.heap.size+1);rw[aa];obtain⟨b2,ak⟩:=af (b1+1);rw[ak];obtain⟨g,hg⟩:=af (b2+1);rw[hg];obtain⟨wa,z⟩:=aG (w.alloc (.cells #[bE bL 0,bE bL 0,bN ⟨#[]⟩,bE bL 0,bE bL 0,bN ⟨#[]⟩,bO none 0 0,bO none 0 0] 67 (0,0)));obtain⟨wb,y⟩:=aG (wa.alloc (.cells #[bE bL 0] 3 (0,0)));obtain⟨wc,G⟩:=aG (wb.alloc (.cells #[bE bL 0] 28 (0,0)));obtain⟨W,hW⟩:=aG (wc.alloc (.cells #[bN s,bE bL 0,bN ⟨#[]⟩,bS false] 346 (0,0)));have T:wa.heap.size=b1:=by rw[z,<- aa];simp
 have A:wb.heap.size=b2:=by rw[y,<- ak,<- T];simp
 have an:wc.heap.size=g:=by rw[G,<- hg,<- A];simp
 have d:ZB wa w.heap.size:=by rw[z];exact ah.new w _ _
 have F:ah wb b1 3 #[bE bL 0]:=by rw[y,<- T];exact ah.new wa _ _
 have V:ah wc b2 28 #[bE bL 0]:=by rw[G,<- A];exact ah.new wb _ _
 have BG:ah W g 346 #[bN s,bE bL ((0:Nat):Int),bN ⟨#[]⟩,bS false]:=by rw[hW,<- an];exact ah.new wc _ _
 have i:DD wa wb:=by rw[y];exact (Below.refl _ _).alloc (b3 _) _
 have n:DD wb wc:=by rw[G];exact (Below.refl _ _).alloc (b3 _) _
 have E:DD wc W:=by rw[hW];exact (Below.refl _ _).alloc (b3 _) _
 have ZT:DD w wa:=by rw[z];exact (Below.refl _ _).alloc (b3 _) _
 have j:DD w W:=((ZT.trans (i.mono ZT.size)).trans (n.mono (b6 ZT.size i.size))).trans (E.mono (b6 ZT.size (b6 i.size n.size)));have ae:=qh (((d.below i d.lt).below n (d.below i d.lt).lt).below E ((d.below i d.lt).below n (d.below i d.lt).lt).lt);have Y:=qh ((F.below n F.lt).below E (F.below n F.lt).lt);have ap:=qh (V.below E V.lt);have aZ:=qh BG;have xK:=qh (show TM W g from ⟨w,jU.o.1,jU.o.2,by omega,j⟩);rw[<- z,<- y,<- G,<- hW];clear z y G hW d F V BG i n E ZT T A an;have ZU:w.heap.size≠b1:=by omega
 have X:w.heap.size≠b2:=by omega
 have J:b1≠b2:=by omega
 have J6:=qh (show Calls lM 254 #[bR (some ⟨g,0,none⟩)] W λ e w'=>e = bX (.tuple #[])/\bI w' g s 0/\Kp g W w' from ZQ g s 0 ⟨#[]⟩ false W aZ.o (b4 _) hs);go_wp2_with (go_at_call 254;(with_reducible refine J6.o.mono ?_);rintro e w1 ⟨rfl,am,Q⟩);have yO:=qh am;have DN:=qh Q;have HC:=afZ s (wordsOf s.data.toList 0) g 0 w1 yO.o (xK.o.kp Q) rfl;rw[HR.o] at HC;refine HC.mono ?_;clear HC am Q J6;cases r with
 | err k =>
  rintro e o ⟨rfl,I⟩;have u:=DN.o.trans I;have m:=qh (show St o w.heap.size b1 b2 #[bE bL 0,bE bL 0,bN ⟨#[]⟩,bE bL 0,bE bL 0,bN ⟨#[]⟩,bO none 0 0,bO none 0 0] (bE bL 0) (bE bL 0) o from ⟨ae.o.kp u (by omega),Y.o.kp u (by omega),ap.o.kp u (by omega),rfl,rfl,rfl,b3 _,λ _ _ _ _ _=>rfl⟩);have R:=qh (j.trans (u.below (by omega) j.size));go_wp2_with fail;refine leaves_cons (f:=253) (args:=#[bR (some ⟨w.heap.size,0,none⟩),bR (some ⟨b1,0,none⟩),bR (some ⟨b2,0,none⟩)]) (by simp) (by simp[go_sem]) ?_;refine (Ja o w.heap.size b1 b2 k ZU X J (bE bL 0) (bE bL 0) (bN ⟨#[]⟩) (bE bL 0) (bE bL 0) (bN ⟨#[]⟩) (bO none 0 0) (bO none 0 0) (bE bL 0) (bE bL 0) [] m.o).mono ?_;rintro e u' O ⟨rfl,rfl,a⟩;have bB:=qh a;have K:=a.c0;have M:=a.c1;have N:=a.c2;obtain⟨iE,iF,iG,iH,iI,iJ,iK,Z⟩:=ah.c8 K;have H:O.cell? ⟨b1,0,none⟩=some (bE bL (k:Nat)):=M.cell 0;have D:O.cell? ⟨b2,0,none⟩=some (bE bL 10):=N.cell 0;have P:=qh (show DD w O from R.o.trans (show Below w.heap.size o O from ⟨a.os,a.tape,a.output,a.size,λ k' aL=>a.far k' (b7 aL R.o.size) (by omega) (by omega) (by omega)⟩));clear a K M N;refine⟨.tuple #[.agg #[bE bL 0,bE bL 0,bN ⟨#[]⟩,bE bL 0,bE bL 0,bN ⟨#[]⟩,bO none 0 0,bO none 0 0],bE bL (k:Nat),bE bL 10],by simp[results,results232,go_sem,iE,iF,iG,iH,iI,iJ,iK,Z,H,D],rfl,P.o⟩
 | ok es l1 =>
  rintro e o ⟨x,S,bA,rfl,rfl,rfl,aq,ab,I⟩;have PV:=qh aq;obtain⟨ba,bg,a5,A,ay,bb,aw⟩:=aq;rename_i A1 c1 A2 c2 bo;clear ay bb aw ba bg a5 A;have al:(aA x A1 c1 A2 c2).toArray = (Ag x A1 c1 A2 x.ar.length c2):=rfl;rw[al];clear al;have u:=DN.o.trans I;have ax:=qh ab;have ao:=qh (ae.o.kp u (by omega));have a3:=qh (Y.o.kp u (by omega));have a0:=qh (ap.o.kp u (by omega));have R:=qh (j.trans (u.below (by omega) j.size));have bk:w.heap.size<=W.heap.size:=j.size;have bj:W.heap.size<=w1.heap.size:=DN.o.size;have bw:g<w1.heap.size:=yO.o.b.lt;have B0:=ao.o;clear u ab I j;obtain⟨fK,lD,gJ,lF,jC,rD,jD,rE,nJ,IV,nK,IW,nM,IX,nN,IY⟩:=ah.z8 B0;go_upto_region 5 with (fail);obtain⟨c,p⟩:=aG (kR o w.heap.size (bE bL x.k) (bE bL x.op) (bN x.nm) (bE bL x.v.k) (bE bL x.v.n) (bN x.v.s) (bO A1 x.v.l.length c1) (bO A2 x.ar.length c2));have U:=qh (show bI c g s S by rw[p];exact ax.o.kp (eG _ _ _ _ _ _ _ _ _ _ g (by omega)));have m:=qh (show St o w.heap.size b1 b2 (Ag x A1 c1 A2 x.ar.length c2) (bE bL 0) (bE bL 0) c by
   rw[p];exact St.set0 (show St o w.heap.size b1 b2 #[bE bL 0,bE bL 0,bN ⟨#[]⟩,bE bL 0,bE bL 0,bN ⟨#[]⟩,bO none 0 0,bO none 0 0] (bE bL 0) (bE bL 0) o from ⟨ao.o,a3.o,a0.o,rfl,rfl,rfl,b3 _,λ _ _ _ _ _=>rfl⟩) ZU X (bE bL x.k) (bE bL x.op) (bN x.nm) (bE bL x.v.k) (bE bL x.v.n) (bN x.v.s) (bO A1 x.v.l.length c1) (bO A2 x.ar.length c2))
  have bh:=qh (show bY c (λ b=>w1.heap.size<=b) c.heap.size x (aA x A1 c1 A2 c2) by rw[p];exact DZ PV.o (λ k u=>by omega) _ _ _ _ _ _ _ _);dsimp only[kR] at p;rw[<- p];clear p fK gJ jC jD nJ nK nM nN  B0;cases ht:dE s.data.toList S with
  | none =>
   have ac:=pI ht;have aR:=qh ac;have be:c.cell? ⟨g,2,none⟩=some (bN ⟨#[]⟩):=by
    have h:=U.o.b.cell 2;rw[show bH s S = [] from by unfold bH;rw[ht]] at h;exact h
   have B0:=m.o.c0;have B1:=m.o.c1;have B2:=m.o.c2;obtain⟨jZ,bx,bf,bn,bi,bz,bc,bp,a2,bv,aE,br,aD,bs,a1,bl⟩:=ah.z8 B0;have aV:c.cell? ⟨b1,0,none⟩=some (bE bL 0):=B1.cell 0;have a8:c.frozen? ⟨b1,0,none⟩=false:=B1.frozen 0;have a7:c.cell? ⟨b2,0,none⟩=some (bE bL 0):=B2.cell 0;have aM:c.frozen? ⟨b2,0,none⟩=false:=B2.frozen 0;clear ht ac;go_wp2_with fail;refine leaves_cons (f:=253) (args:=#[bR (some ⟨w.heap.size,0,none⟩),bR (some ⟨b1,0,none⟩),bR (some ⟨b2,0,none⟩)]) (by simp) (by simp[go_sem]) ?_;refine (ZP _ _ _ _).mono ?_;rintro e u' O ⟨rfl,rfl,rfl⟩;obtain⟨W9,gU⟩:=aG (((kR c w.heap.size (bE bL x.k) (bE bL x.op) (bN x.nm) (bE bL x.v.k) (bE bL x.v.n) (bN x.v.s) (bO A1 x.v.l.length c1) (bO A2 x.ar.length c2)).setCell ⟨b1,0,none⟩ (bE bL 0)).setCell ⟨b2,0,none⟩ (bE bL 0));have l:=qh (show St c w.heap.size b1 b2 (Ag x A1 c1 A2 x.ar.length c2) (bE bL 0) (bE bL 0) W9 by
    rw[gU];exact ((St.set0 (show St c w.heap.size b1 b2 (Ag x A1 c1 A2 x.ar.length c2) (bE bL 0) (bE bL 0) c from ⟨m.o.c0,m.o.c1,m.o.c2,rfl,rfl,rfl,b3 _,λ _ _ _ _ _=>rfl⟩) ZU X (bE bL x.k) (bE bL x.op) (bN x.nm) (bE bL x.v.k) (bE bL x.v.n) (bN x.v.s) (bO A1 x.v.l.length c1) (bO A2 x.ar.length c2)).set1 ZU J (bE bL 0)).set2 X J (bE bL 0))
   dsimp only[kR] at gU;rw[<- gU];clear gU jZ bf bi bc a2 aE aD a1 aV a8 a7 aM B0 B1 B2;have K:=l.o.c0;have M:=l.o.c1;have N:=l.o.c2;obtain⟨iE,iF,iG,iH,iI,iJ,iK,Z⟩:=ah.c8 K;have H:W9.cell? ⟨b1,0,none⟩=some (bE bL 0):=M.cell 0;have D:W9.cell? ⟨b2,0,none⟩=some (bE bL 0):=N.cell 0;have ZW:w.heap.size<=o.heap.size:=R.o.size;have I7:o.heap.size<=c.heap.size:=m.o.size;have bd:=qh ((R.o.trans (m.o.toBelow (B:=w.heap.size) ZW (b3 _) (by omega) (by omega))).trans (l.o.toBelow (B:=w.heap.size) (by omega) (b3 _) (by omega) (by omega)));have a6:=qh (((bh.o.keep (w':=W9) ⟨l.o.size,λ k u hl=>l.o.far k hl (by omega) (by omega) (by omega)⟩).up l.o.size).imp (q:=λ b=>w.heap.size<=b) (λ k u _=>by omega));clear K M N;refine⟨.tuple #[.agg (Ag x A1 c1 A2 x.ar.length c2),bE bL 0,bE bL 0],by simp[results,results232,go_sem,iE,iF,iG,iH,iI,iJ,iK,Z,H,D],?_⟩;show ZR w s (.ok [x] (wordsOf s.data.toList S)) _ _;rw[aR.o];exact⟨x,aA x A1 c1 A2 c2,rfl,rfl,a6.o,bd.o⟩
  | some t =>
   obtain⟨ea,et,-⟩:=nU ht;have C:wordsOf s.data.toList S=t :: wordsOf s.data.toList (t.at_+t.tx.length):=by rw[gy,ht]
   have a9:=qh C;have bq:=qh ea;obtain⟨v,hv⟩:=af (tb t.tx);have be:c.cell? ⟨g,2,none⟩=some (bN v):=by
    have h:=U.o.b.cell 2;rw[et,hv] at h;exact h
   have bt:v.toList.isEmpty=false:=by
    have ag:=(iV ht).2.2.1;have ar:0<v.size:=by rw[<- hv,lU];exact ag
    cases h:v.toList.isEmpty with
    | false=>rfl
    | true =>
     have h1:v.toList = []:=List.isEmpty_iff.1 h;have h2:(v.toList == (⟨#[]⟩:ByteArray).toList)=true:=by rw[h1];simp
     have h3:(v.toList == (⟨#[]⟩:ByteArray).toList)=false:=dV (λ e=>by rw[e] at ar;exact absurd ar (by decide));rw[h3] at h2;cases h2
   have ad:=qh (oN g s S c U.o);rw[ea] at ad;have a4:=qh (show St c w.heap.size b1 b2 (Ag x A1 c1 A2 x.ar.length c2) (bE bL 0) (bE bL 0) c from ⟨m.o.c0,m.o.c1,m.o.c2,rfl,rfl,rfl,b3 _,λ _ _ _ _ _=>rfl⟩);clear ea et C hv ht;go_wp2_with (go_at_call 256;(with_reducible refine ad.o.mono ?_);rintro e w4 ⟨rfl,rfl⟩);refine leaves_cons (f:=253) (args:=#[bR (some ⟨w.heap.size,0,none⟩),bR (some ⟨b1,0,none⟩),bR (some ⟨b2,0,none⟩)]) (by simp) (by simp[go_sem]) ?_;refine (Ja c w.heap.size b1 b2 t.at_ ZU X J (bE bL x.k) (bE bL x.op) (bN x.nm) (bE bL x.v.k) (bE bL x.v.n) (bN x.v.s) (bO A1 x.v.l.length c1) (bO A2 x.ar.length c2) (bE bL 0) (bE bL 0) [] a4.o).mono ?_;rintro e u' O ⟨rfl,rfl,a⟩;have K:=a.c0;have M:=a.c1;have N:=a.c2;obtain⟨iE,iF,iG,iH,iI,iJ,iK,Z⟩:=ah.c8 K;have H:O.cell? ⟨b1,0,none⟩=some (bE bL (t.at_:Nat)):=M.cell 0;have D:O.cell? ⟨b2,0,none⟩=some (bE bL 10):=N.cell 0;have ZW:w.heap.size<=o.heap.size:=R.o.size;have I7:o.heap.size<=c.heap.size:=m.o.size;have P:=qh ((R.o.trans (m.o.toBelow (B:=w.heap.size) ZW (b3 _) (by omega) (by omega))).trans (a.toBelow (B:=w.heap.size) (by omega) (b3 _) (by omega) (by omega)));clear a K M N;refine⟨.tuple #[.agg #[bE bL 0,bE bL 0,bN ⟨#[]⟩,bE bL 0,bE bL 0,bN ⟨#[]⟩,bO none 0 0,bO none 0 0],bE bL (t.at_:Nat),bE bL 10],by simp[results,results232,go_sem,iE,iF,iG,iH,iI,iJ,iK,Z,H,D],?_⟩;show ZR w s (.ok [x] (wordsOf s.data.toList S)) _ _;rw[a9.o];exact⟨rfl,P.o⟩
end Go.Proofs.YtcnagconagpkcaaGreatDoor
