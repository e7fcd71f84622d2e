/- Lemmas. -/
import Derived.Test.YtcnagconagpkcaaGreatDoorZ11
open Go.Value renaming int->aD, string->aL, slice->aM, pointer->aR, bool->aZ
open Go.IntKind renaming i64->aE
open Go.Ending renaming returned->a0, returned->a7
open Nat renaming le_refl->a1, zero_le->a4, lt_of_lt_of_le->a5, le_of_lt->a6, one_mul->a8
open Go.ByteArray renaming toList_eq->a2
open And renaming intro->a3
set_option maxHeartbeats 4000000
set_option maxRecDepth 100000
namespace Go.Proofs.YtcnagconagpkcaaGreatDoor
open Tryz
open Tryz renaming prog->lM
section
open Go.RowKit Dig Vtx
structure GV (e:Ending) (w:World) (B:Nat) (s:List UInt8):Prop where
 ex:∃ (x:Val) (A:Option Addr) (c:Nat) (ok:Bool),e = a0 (.tuple #[.agg (BF x A c),aZ ok])/\Reads w w.heap.size 1 A x.l.length (bK aE x.l)/\(∀ ad,A=some ad->B<=ad.block)/\x.l.length<=4000000/\x.s.size<=4000000 /\
  (ok=true->bW s=some ⟨x.k,x.n,x.s.data.toList,x.l⟩)/\(ok=false->bW s=none)
theorem GV.plain {w:World} {B:Nat} {s:List UInt8} (k n:Int) (t:ByteArray) (a:Bool) (b:t.size<=4000000) (d:a=true->bW s=some ⟨k,n,t.data.toList,[]⟩) (c:a=false->bW s=none) :
  GV (a0 (.tuple #[.agg #[aD aE k,aD aE n,aL t,aM none 0 0],aZ a])) w B s:=
 ⟨⟨⟨k,n,t,[]⟩,none,0,a,rfl,Reads.none_,(λ _ h=>by cases h),by simp,b,d,c⟩⟩
theorem GV.opt {w:World} {B:Nat} {s:List UInt8} (k:Int) (o:Option Int) (h:bW s=o.map (⟨k,·,[],[]⟩)):GV (a0 (Hu k o)) w B s:=by
 cases o with
 | none=>exact GV.plain 0 0 ⟨#[]⟩ false (by decide) (λ h=>by cases h) (λ _=>h)
 | some n=>exact GV.plain k n ⟨#[]⟩ true (by decide) (λ _=>h) (λ h=>by cases h)
theorem Reads.apart {w:World} {B size n g i:Nat} {A:Option Addr} {xs:List Value} (h:Reads w B size A n xs) (c:∀ ad,A=some ad->g<ad.block) (u:Value):Reads (w.setCell ⟨g,i,none⟩ u) B size A n xs:=by
 refine⟨h.1,λ k=>?_⟩;obtain⟨ad,e,d,l⟩:=h.2 k;refine⟨ad,e,d,λ j x b=>?_⟩;rw[World.cell?_setCell_other w ⟨g,i,none⟩ (ad.add j) u (λ f=>by
  have m:=c ad e;have a:=congrArg Addr.block f;rw[iw] at a;exact absurd a (by show g≠ad.block;omega))]
 exact l j x b
theorem IQ (k:Int) (o:Option Int):∃ K N a,Hu k o = .tuple #[.agg #[aD aE K,aD aE N,aL ⟨#[]⟩,aM none 0 0],aZ a]/\(a=true->K=k/\o=some N)/\(a=false->o=none):=by
 cases o with
 | none=>exact⟨0,0,false,rfl,(λ h=>by cases h),λ _=>rfl⟩
 | some n=>exact⟨k,n,true,rfl,(λ _=>⟨rfl,rfl⟩),λ h=>by cases h⟩
theorem Tv {s:ByteArray} (h:0<s.size):s.data.toList.head?=some s[0]:=by
 rw[List.head?_eq_getElem?,List.getElem?_eq_getElem (show 0<s.data.toList.length from h)];rfl
theorem head_ne {s:ByteArray} (h:0<s.size) {c:UInt8} (a:((s[0].toNat:Nat):Int)≠(c.toNat:Nat)):s.data.toList.head?≠some c:=by
 rw[Tv h];intro e;injection e with e;rw[e] at a;exact a rfl
theorem head_eq {s:ByteArray} (h:0<s.size) {c:UInt8} (a:((s[0].toNat:Nat):Int)=(c.toNat:Nat)):s.data.toList.head?=some c:=by
 rw[Tv h];congr 1;exact UInt8.toNat_inj.1 (by omega)
structure Odd (s:List UInt8):Prop where
 a:s≠[]
 b:s≠[45]
 c:s≠ql
 d:s≠lK
theorem Y3 {s:List UInt8} (h:Odd s) (a:s.head?=some 39):bW s=some ⟨3,0,Lib.replaceAll (Lib.trimSuffix s.tail [39]) [39,39] [39],[]⟩:=by
 unfold bW;rw[if_neg h.a,if_neg h.b,if_neg h.c,if_neg h.d,if_pos a]
theorem Y4 {s:List UInt8} (h:Odd s) (a:s.head?=some 35):bW s=if (dD s.tail).2 then some ⟨4,(dD s.tail).1,[],[]⟩ else none:=by
 unfold bW;rw[if_neg h.a,if_neg h.b,if_neg h.c,if_neg h.d,if_neg (by rw[a];simp),if_pos a]
theorem VC {s:List UInt8} (h:Odd s) (a:s.head?=some 123):bW s=(jh s).map (⟨5,0,[],·⟩):=by
 unfold bW;rw[if_neg h.a,if_neg h.b,if_neg h.c,if_neg h.d,if_neg (by rw[a];simp),if_neg (by rw[a];simp),if_pos a]
theorem Y5 {s:List UInt8} (h:Odd s) (a:s.head?=some 64):bW s=(iU s.tail).map (⟨6,·,[],[]⟩):=by
 unfold bW;rw[if_neg h.a,if_neg h.b,if_neg h.c,if_neg h.d,if_neg (by rw[a];simp),if_neg (by rw[a];simp),if_neg (by rw[a];simp),if_pos a]
theorem VD {s:List UInt8} (h:Odd s) (e:s.head?≠some 39) (c:s.head?≠some 35) (g:s.head?≠some 123) (d:s.head?≠some 64) (b:s≠w1T) (a:s≠w2T) (f:s≠w3T):bW s=(jg s).map (⟨2,·,[],[]⟩):=by
 unfold bW;rw[if_neg h.a,if_neg h.b,if_neg h.c,if_neg h.d,if_neg e,if_neg c,if_neg g,if_neg d,if_neg b,if_neg a,if_neg f]
theorem acO (s:List UInt8):(Lib.replaceAll s [39,39] [39]).length<=s.length:=by
 rw[kE (by simp),Nh]
 induction s using UH.induct with
 | case1 a b r h ih=>rw[UH,if_pos h];simp only[List.length_cons];omega
 | case2 a b r h ih=>rw[UH,if_neg h];simp only[List.length_cons] at *;omega
 | case3 l h =>
  rcases l with _ | ⟨a,_ | ⟨b,r⟩⟩
  .exact a1 _
  .exact a1 _
  .exact absurd rfl (h a b r)
theorem VE (s:ByteArray) (w:World) (hs:s.size<=2000000) (hm:Mx w) (T:Odd s.data.toList) :
  Calls lM 325 #[aL s] w λ e w'=>GV e w' w.heap.size s.data.toList/\DD w w':=by
 have HM:=qh hm;have D:=qh T;have al:s.data.toList.length=s.size:=rfl;have e1:s.toList.isEmpty=false:=by rw[a2];simpa using T.a
 have e2:(s.toList == [45])=false:=by rw[a2,beq_eq_false_iff_ne];exact T.b
 have e3:(s.toList == [116,114,117,101])=false:=by rw[a2,beq_eq_false_iff_ne];exact T.c
 have e4:(s.toList == [102,97,108,115,101])=false:=by rw[a2,beq_eq_false_iff_ne];exact T.d
 have F:0<s.size:=by
  rcases Nat.eq_zero_or_pos s.size with h | h
  .exact absurd (List.eq_nil_of_length_eq_zero (by rw[al];exact h)) T.a
  .exact h
 have HX:=qh (show (s.extract 1 s.size).data.toList=s.data.toList.tail by
  rw[Lib.extract_data,List.take_of_length_le (by simp),List.drop_one])
 have ar:(s.extract 1 s.size).size<=2000000:=by rw[ByteArray.size_extract];omega
 have d:DD w (w.alloc (.cells #[aD aE 0,aD aE 0,aL ⟨#[]⟩,aM none 0 0] 65 (0,0))):=(Below.refl _ _).alloc (a1 _) _;have b:=ah.new w 65 #[aD aE 0,aD aE 0,aL ⟨#[]⟩,aM none 0 0];obtain⟨W,hW⟩:=aG (w.alloc (.cells #[aD aE 0,aD aE 0,aL ⟨#[]⟩,aM none 0 0] 65 (0,0)));have HW:=qh hW;rw[<- hW] at d b;clear hm T al hW;by_cases yN:((s[0].toNat:Nat):Int)=39
 .have ax:(((s[0].toNat:Nat):Int) == 39)=true:=by simpa using yN
  have p:=qh (Y3 D.o (head_eq (c:=39) F yN));clear yN;go_enter func325,ntmps325;go_wp2_with fail;rw[<- HW.o];refine (Tt (s.extract 1 s.size) ⟨#[39]⟩ W ar).mono ?_;rintro e G ⟨⟨Q,rfl,I⟩,rfl⟩;have av:Q.size<=2000000:=by
   have:=Lib.trimSuffix_le (s.extract 1 s.size).data.toList [39];rw[nI I];have h2:(s.extract 1 s.size).data.toList.length=(s.extract 1 s.size).size:=rfl;show (Lib.trimSuffix (s.extract 1 s.size).data.toList [39]).length<=_;omega
  have ay:=qh (show Q.data.toList=Lib.trimSuffix s.data.toList.tail [39] by rw[I,HX.o]);clear I;go_wp2_with fail;refine (vG Q ⟨#[39,39]⟩ ⟨#[39]⟩ W av (by decide) (by decide) (HM.o.below d)).mono ?_;rintro e w2 ⟨⟨t2,rfl,R⟩,O⟩;have aq:t2.size<=4000000:=by
   rw[nI R];have:=acO Q.data.toList;have h2:Q.data.toList.length=Q.size:=rfl;show (Lib.replaceAll Q.data.toList [39,39] [39]).length<=_;omega
  have HE:=qh (show bW s.data.toList=some ⟨3,0,t2.data.toList,[]⟩ by rw[p.o,R,<- ay.o]);have B0:=b.below O b.lt;have u:=d.trans (O.mono d.size);clear R O;obtain⟨L,X,J,U,M,S,V,H⟩:=ah.z4 B0;go_wp2;obtain⟨C,n,x,y⟩:=dL B0 u (aD aE 3) (aD aE 0) (aL t2) (aM none 0 0);rw[<- n];clear n;obtain⟨r,g,j,f⟩:=ah.c4 x;refine bodyPost_ret (v:=.tuple #[.agg #[aD aE 3,aD aE 0,aL t2,aM none 0 0],aZ true]) (by simp[results,results325,go_sem,r,g,j,f]) rfl ⟨GV.plain 3 0 t2 true aq (λ _=>HE.o) (λ h=>by cases h),y⟩
 have ax:(((s[0].toNat:Nat):Int) == 39)=false:=by simpa using yN
 have ac:=qh (head_ne (c:=39) F yN);clear yN;by_cases h35:((s[0].toNat:Nat):Int)=35
 .have ap:(((s[0].toNat:Nat):Int) == 35)=true:=by simpa using h35
  have p:=qh (Y4 D.o (head_eq (c:=35) F h35));obtain⟨a,q,m,ae,ha⟩:=jJ (s.extract 1 s.size).data.toList;have am:=qh ae;have HE:=qh (show bW s.data.toList=if q then some ⟨4,(a:Nat),[],[]⟩ else none by rw[p.o,<- HX.o,m]);clear h35 m ae;go_enter func325,ntmps325;go_wp2_with fail;rw[<- HW.o];refine (mM (s.extract 1 s.size) W).mono ?_;rw[am.o];rintro e G ⟨rfl,rfl⟩;obtain⟨L,X,J,U,M,S,V,H⟩:=ah.z4 b;go_wp2;obtain⟨C,n,x,y⟩:=dL b d (aD aE 4) (aD aE (a:Nat)) (aL ⟨#[]⟩) (aM none 0 0);rw[<- n];clear n;obtain⟨r,g,j,f⟩:=ah.c4 x;refine bodyPost_ret (v:=.tuple #[.agg #[aD aE 4,aD aE (a:Nat),aL ⟨#[]⟩,aM none 0 0],aZ q]) (by simp[results,results325,go_sem,r,g,j,f]) rfl ⟨GV.plain 4 a ⟨#[]⟩ q (by decide) (λ h=>by rw[HE.o,h];rfl) (λ h=>by rw[HE.o,h];rfl),y⟩
 have ap:(((s[0].toNat:Nat):Int) == 35)=false:=by simpa using h35
 have aa:=qh (head_ne (c:=35) F h35);clear h35;by_cases kQ:((s[0].toNat:Nat):Int)=123
 .have VF:(((s[0].toNat:Nat):Int) == 123)=true:=by simpa using kQ
  have p:=qh (VC D.o (head_eq (c:=123) F kQ));clear kQ;go_enter func325,ntmps325;go_wp2_with fail;rw[<- HW.o];refine (Og s W hs (HM.o.below d)).mono ?_;rintro e G ⟨hr,o⟩;obtain⟨A,c,l,q,rfl,ak,hA,hl,q1,q2⟩:=hr.ex;have ag:∀ ad,A=some ad->w.heap.size<ad.block:=λ ad h=>a5 b.lt (hA ad h);have Y:=qh (a3 ak ag);have E:=qh (a3 q1 q2);have B0:=b.below o b.lt;have u:=d.trans (o.mono d.size);clear hr o ak hA q1 q2 ag;obtain⟨L,X,J,U,M,S,V,H⟩:=ah.z4 B0;go_wp2;obtain⟨C,n,x,y⟩:=dL B0 u (aD aE 5) (aD aE 0) (aL ⟨#[]⟩) (aM A l.length c);have aw:=qh (n▸(((Y.o.1.apart Y.o.2 _).apart Y.o.2 _).apart Y.o.2 _).apart Y.o.2 _:Reads C G.heap.size 1 A l.length (bK aE l));have an:G.heap.size<=C.heap.size:=by rw[n];simp[World.setCell]
  rw[<- n];clear n;obtain⟨r,g,j,f⟩:=ah.c4 x;refine bodyPost_ret (v:=.tuple #[.agg #[aD aE 5,aD aE 0,aL ⟨#[]⟩,aM A l.length c],aZ q]) (by simp[results,results325,go_sem,r,g,j,f]) rfl ⟨⟨⟨⟨5,0,⟨#[]⟩,l⟩,A,c,q,rfl,aw.o.more an,(λ ad h=>a6 (Y.o.2 ad h)),by show l.length<=_;omega,by show 0<=_;omega,(λ h=>by rw[p.o,E.o.1 h];rfl),(λ h=>by rw[p.o,E.o.2 h];rfl)⟩⟩,y⟩
 have VF:(((s[0].toNat:Nat):Int) == 123)=false:=by simpa using kQ
 have Z:=qh (head_ne (c:=123) F kQ);clear kQ;by_cases h64:((s[0].toNat:Nat):Int)=64
 .have ao:(((s[0].toNat:Nat):Int) == 64)=true:=by simpa using h64
  have p:=qh (Y5 D.o (head_eq (c:=64) F h64));clear h64;obtain⟨K,N,q,hv,z,B⟩:=IQ 6 (iU s.data.toList.tail);have HV:=qh hv;have E:=qh (show (q=true->bW s.data.toList=some ⟨K,N,[],[]⟩)/\(q=false->bW s.data.toList=none) from ⟨λ h=>by rw[p.o];obtain⟨e1,e2⟩:=z h;rw[e2,e1];rfl,λ h=>by rw[p.o,B h];rfl⟩);clear hv z B;go_enter func325,ntmps325;go_wp2_with fail;rw[<- HW.o];refine (Oh s W hs (by omega) (HM.o.below d)).mono ?_;rw[HV.o];rintro e G ⟨rfl,o⟩;have B0:=b.below o b.lt;have u:=d.trans (o.mono d.size);clear o;obtain⟨L,X,J,U,M,S,V,H⟩:=ah.z4 B0;go_wp2;obtain⟨C,n,x,y⟩:=dL B0 u (aD aE K) (aD aE N) (aL ⟨#[]⟩) (aM none 0 0);rw[<- n];clear n;obtain⟨r,g,j,f⟩:=ah.c4 x;refine bodyPost_ret (v:=.tuple #[.agg #[aD aE K,aD aE N,aL ⟨#[]⟩,aM none 0 0],aZ q]) (by simp[results,results325,go_sem,r,g,j,f]) rfl ⟨GV.plain K N ⟨#[]⟩ q (by decide) E.o.1 E.o.2,y⟩
 have ao:(((s[0].toNat:Nat):Int) == 64)=false:=by simpa using h64
 have ab:=qh (head_ne (c:=64) F h64);clear h64;have i0:∀ w,(Instr.index 348 (.agg #[aL ⟨#[]⟩,aL ⟨#[100,111,110,116,107,110,111,119]⟩,aL ⟨#[114,101,102,117,115,101,100]⟩,aL ⟨#[110,111,97,110,115,119,101,114]⟩]) (aD aE 0)).run lM w = .ok (aL ⟨#[]⟩) w:=λ _=>by kernel_rfl
 have i1:∀ w,(Instr.index 348 (.agg #[aL ⟨#[]⟩,aL ⟨#[100,111,110,116,107,110,111,119]⟩,aL ⟨#[114,101,102,117,115,101,100]⟩,aL ⟨#[110,111,97,110,115,119,101,114]⟩]) (aD aE 1)).run lM w = .ok (aL ⟨#[100,111,110,116,107,110,111,119]⟩) w:=λ _=>by kernel_rfl
 have i2:∀ w,(Instr.index 348 (.agg #[aL ⟨#[]⟩,aL ⟨#[100,111,110,116,107,110,111,119]⟩,aL ⟨#[114,101,102,117,115,101,100]⟩,aL ⟨#[110,111,97,110,115,119,101,114]⟩]) (aD aE 2)).run lM w = .ok (aL ⟨#[114,101,102,117,115,101,100]⟩) w:=λ _=>by kernel_rfl
 have i3:∀ w,(Instr.index 348 (.agg #[aL ⟨#[]⟩,aL ⟨#[100,111,110,116,107,110,111,119]⟩,aL ⟨#[114,101,102,117,115,101,100]⟩,aL ⟨#[110,111,97,110,115,119,101,114]⟩]) (aD aE 3)).run lM w = .ok (aL ⟨#[110,111,97,110,115,119,101,114]⟩) w:=λ _=>by kernel_rfl
 have QQ:=qh (λ G w2 w3=>VD D.o ac.o aa.o Z.o ab.o G w2 w3);clear ac aa Z ab;by_cases m:s.data.toList=w1T
 .have g0:(([]:List UInt8) == s.toList)=false:=by rw[a2,beq_eq_false_iff_ne];exact λ e=>D.o.a e.symm
  have g1:(([100,111,110,116,107,110,111,119]:List UInt8) == s.toList)=true:=by rw[a2,m];rfl
  have p:=qh (show bW s.data.toList=some ⟨1,1,[],[]⟩ by rw[m];rfl);clear m QQ;go_enter func325,ntmps325;go_wp2;rw[<- HW.o]
  go_loop [70] (λ i=>∃ k:Nat,k<=1/\i = aD aE k) (λ i=>5 - (intOf i).toNat)
  case atStart=>exact⟨0,a4 _,rfl⟩
  case round =>
   obtain⟨k,P,rfl⟩:=hrel;have t:k=0\/k=1:=by omega
   clear P;rcases t with rfl | rfl
   .go_wp2
    go_round
    case rel=>exact⟨1,by omega,by first | rfl | go_num⟩
    case measure=>simp[intOf]
   .have L:W.cell? ⟨w.heap.size,0,none⟩=some (aD aE 0):=b.cell 0;have X:W.frozen? ⟨w.heap.size,0,none⟩=false:=b.frozen 0;have J:W.cell? ⟨w.heap.size,1,none⟩=some (aD aE 0):=b.cell 1;have U:W.frozen? ⟨w.heap.size,1,none⟩=false:=b.frozen 1;have M:W.cell? ⟨w.heap.size,2,none⟩=some (aL ⟨#[]⟩):=b.cell 2;have S:W.frozen? ⟨w.heap.size,2,none⟩=false:=b.frozen 2;have V:W.cell? ⟨w.heap.size,3,none⟩=some (aM none 0 0):=b.cell 3;have H:W.frozen? ⟨w.heap.size,3,none⟩=false:=b.frozen 3;go_wp2;obtain⟨C,n,x,y⟩:=dL b d (aD aE 1) (aD aE 1) (aL ⟨#[]⟩) (aM none 0 0);rw[<- n];clear n;obtain⟨r,g,j,f⟩:=ah.c4 x;refine bodyPost_ret (v:=.tuple #[.agg #[aD aE 1,aD aE 1,aL ⟨#[]⟩,aM none 0 0],aZ true]) (by simp[results,results325,go_sem,r,g,j,f]) rfl ⟨GV.plain 1 1 ⟨#[]⟩ true (by decide) (λ _=>p.o) (λ h=>by cases h),y⟩
 by_cases hw2:s.data.toList=w2T
 .have g0:(([]:List UInt8) == s.toList)=false:=by rw[a2,beq_eq_false_iff_ne];exact λ e=>D.o.a e.symm
  have g1:(([100,111,110,116,107,110,111,119]:List UInt8) == s.toList)=false:=by rw[a2,beq_eq_false_iff_ne];exact λ e=>m e.symm
  have g2:(([114,101,102,117,115,101,100]:List UInt8) == s.toList)=true:=by rw[a2,hw2];rfl
  have p:=qh (show bW s.data.toList=some ⟨1,2,[],[]⟩ by rw[hw2];rfl);clear m hw2 QQ;go_enter func325,ntmps325;go_wp2;rw[<- HW.o]
  go_loop [70] (λ i=>∃ k:Nat,k<=2/\i = aD aE k) (λ i=>5 - (intOf i).toNat)
  case atStart=>exact⟨0,a4 _,rfl⟩
  case round =>
   obtain⟨k,P,rfl⟩:=hrel;have t:k=0\/k=1\/k=2:=by omega
   clear P;rcases t with rfl | rfl | rfl
   .go_wp2
    go_round
    case rel=>exact⟨1,by omega,by first | rfl | go_num⟩
    case measure=>simp[intOf]
   .go_wp2
    go_round
    case rel=>exact⟨2,by omega,by first | rfl | go_num⟩
    case measure=>simp[intOf]
   .have L:W.cell? ⟨w.heap.size,0,none⟩=some (aD aE 0):=b.cell 0;have X:W.frozen? ⟨w.heap.size,0,none⟩=false:=b.frozen 0;have J:W.cell? ⟨w.heap.size,1,none⟩=some (aD aE 0):=b.cell 1;have U:W.frozen? ⟨w.heap.size,1,none⟩=false:=b.frozen 1;have M:W.cell? ⟨w.heap.size,2,none⟩=some (aL ⟨#[]⟩):=b.cell 2;have S:W.frozen? ⟨w.heap.size,2,none⟩=false:=b.frozen 2;have V:W.cell? ⟨w.heap.size,3,none⟩=some (aM none 0 0):=b.cell 3;have H:W.frozen? ⟨w.heap.size,3,none⟩=false:=b.frozen 3;go_wp2;obtain⟨C,n,x,y⟩:=dL b d (aD aE 1) (aD aE 2) (aL ⟨#[]⟩) (aM none 0 0);rw[<- n];clear n;obtain⟨r,g,j,f⟩:=ah.c4 x;refine bodyPost_ret (v:=.tuple #[.agg #[aD aE 1,aD aE 2,aL ⟨#[]⟩,aM none 0 0],aZ true]) (by simp[results,results325,go_sem,r,g,j,f]) rfl ⟨GV.plain 1 2 ⟨#[]⟩ true (by decide) (λ _=>p.o) (λ h=>by cases h),y⟩
 by_cases hw3:s.data.toList=w3T
 .have g0:(([]:List UInt8) == s.toList)=false:=by rw[a2,beq_eq_false_iff_ne];exact λ e=>D.o.a e.symm
  have g1:(([100,111,110,116,107,110,111,119]:List UInt8) == s.toList)=false:=by rw[a2,beq_eq_false_iff_ne];exact λ e=>m e.symm
  have g2:(([114,101,102,117,115,101,100]:List UInt8) == s.toList)=false:=by rw[a2,beq_eq_false_iff_ne];exact λ e=>hw2 e.symm
  have g3:(([110,111,97,110,115,119,101,114]:List UInt8) == s.toList)=true:=by rw[a2,hw3];rfl
  have p:=qh (show bW s.data.toList=some ⟨1,3,[],[]⟩ by rw[hw3];rfl);clear m hw2 hw3 QQ;go_enter func325,ntmps325;go_wp2;rw[<- HW.o]
  go_loop [70] (λ i=>∃ k:Nat,k<=3/\i = aD aE k) (λ i=>5 - (intOf i).toNat)
  case atStart=>exact⟨0,a4 _,rfl⟩
  case round =>
   obtain⟨k,P,rfl⟩:=hrel;have t:k=0\/k=1\/k=2\/k=3:=by omega
   clear P;rcases t with rfl | rfl | rfl | rfl
   .go_wp2
    go_round
    case rel=>exact⟨1,by omega,by first | rfl | go_num⟩
    case measure=>simp[intOf]
   .go_wp2
    go_round
    case rel=>exact⟨2,by omega,by first | rfl | go_num⟩
    case measure=>simp[intOf]
   .go_wp2
    go_round
    case rel=>exact⟨3,by omega,by first | rfl | go_num⟩
    case measure=>simp[intOf]
   .have L:W.cell? ⟨w.heap.size,0,none⟩=some (aD aE 0):=b.cell 0;have X:W.frozen? ⟨w.heap.size,0,none⟩=false:=b.frozen 0;have J:W.cell? ⟨w.heap.size,1,none⟩=some (aD aE 0):=b.cell 1;have U:W.frozen? ⟨w.heap.size,1,none⟩=false:=b.frozen 1;have M:W.cell? ⟨w.heap.size,2,none⟩=some (aL ⟨#[]⟩):=b.cell 2;have S:W.frozen? ⟨w.heap.size,2,none⟩=false:=b.frozen 2;have V:W.cell? ⟨w.heap.size,3,none⟩=some (aM none 0 0):=b.cell 3;have H:W.frozen? ⟨w.heap.size,3,none⟩=false:=b.frozen 3;go_wp2;obtain⟨C,n,x,y⟩:=dL b d (aD aE 1) (aD aE 3) (aL ⟨#[]⟩) (aM none 0 0);rw[<- n];clear n;obtain⟨r,g,j,f⟩:=ah.c4 x;refine bodyPost_ret (v:=.tuple #[.agg #[aD aE 1,aD aE 3,aL ⟨#[]⟩,aM none 0 0],aZ true]) (by simp[results,results325,go_sem,r,g,j,f]) rfl ⟨GV.plain 1 3 ⟨#[]⟩ true (by decide) (λ _=>p.o) (λ h=>by cases h),y⟩
 have g0:(([]:List UInt8) == s.toList)=false:=by rw[a2,beq_eq_false_iff_ne];exact λ e=>D.o.a e.symm
 have g1:(([100,111,110,116,107,110,111,119]:List UInt8) == s.toList)=false:=by rw[a2,beq_eq_false_iff_ne];exact λ e=>m e.symm
 have g2:(([114,101,102,117,115,101,100]:List UInt8) == s.toList)=false:=by rw[a2,beq_eq_false_iff_ne];exact λ e=>hw2 e.symm
 have g3:(([110,111,97,110,115,119,101,114]:List UInt8) == s.toList)=false:=by rw[a2,beq_eq_false_iff_ne];exact λ e=>hw3 e.symm
 have p:=qh (QQ.o m hw2 hw3);clear m hw2 hw3 QQ;go_enter func325,ntmps325;go_wp2;rw[<- HW.o]
 go_loop [70] (λ i=>∃ k:Nat,k<=4/\i = aD aE k) (λ i=>5 - (intOf i).toNat)
 case atStart=>exact⟨0,a4 _,rfl⟩
 case round =>
  obtain⟨k,P,rfl⟩:=hrel;have t:k=0\/k=1\/k=2\/k=3\/k=4:=by omega
  clear P;rcases t with rfl | rfl | rfl | rfl | rfl
  .go_wp2
   go_round
   case rel=>exact⟨1,by omega,by first | rfl | go_num⟩
   case measure=>simp[intOf]
  .go_wp2
   go_round
   case rel=>exact⟨2,by omega,by first | rfl | go_num⟩
   case measure=>simp[intOf]
  .go_wp2
   go_round
   case rel=>exact⟨3,by omega,by first | rfl | go_num⟩
   case measure=>simp[intOf]
  .go_wp2
   go_round
   case rel=>exact⟨4,by omega,by first | rfl | go_num⟩
   case measure=>simp[intOf]
  .obtain⟨K,N,q,hv,z,B⟩:=IQ 2 (jg s.data.toList);have HV:=qh hv;have E:=qh (show (q=true->bW s.data.toList=some ⟨K,N,[],[]⟩)/\(q=false->bW s.data.toList=none) from ⟨λ h=>by rw[p.o];obtain⟨e1,e2⟩:=z h;rw[e2,e1];rfl,λ h=>by rw[p.o,B h];rfl⟩);clear hv z B;go_wp2_with fail;refine (Fg s W hs (HM.o.below d)).mono ?_;rw[HV.o];rintro e G ⟨rfl,o⟩;have B0:=b.below o b.lt;have u:=d.trans (o.mono d.size);clear o;obtain⟨L,X,J,U,M,S,V,H⟩:=ah.z4 B0;go_wp2;obtain⟨C,n,x,y⟩:=dL B0 u (aD aE K) (aD aE N) (aL ⟨#[]⟩) (aM none 0 0);rw[<- n];clear n;obtain⟨r,g,j,f⟩:=ah.c4 x;refine bodyPost_ret (v:=.tuple #[.agg #[aD aE K,aD aE N,aL ⟨#[]⟩,aM none 0 0],aZ q]) (by simp[results,results325,go_sem,r,g,j,f]) rfl ⟨GV.plain K N ⟨#[]⟩ q (by decide) E.o.1 E.o.2,y⟩
theorem VG (s:ByteArray) (w:World) (c:s.size<=2000000) (b:Mx w) :
  Calls lM 325 #[aL s] w λ e w'=>GV e w' w.heap.size s.data.toList/\DD w w':=by
 by_cases h:s.data.toList = []
 .have a:s=⟨#[]⟩:=uG (by first | (rw[h];done) | (rw[h];rfl));subst a;clear h c b;go_enter func325,ntmps325;go_wp2;refine bodyPost_ret (v:=.tuple #[.agg #[aD aE 0,aD aE 0,aL ⟨#[]⟩,aM none 0 0],aZ false]) (by simp[results,results325,go_sem]) rfl ⟨GV.plain 0 0 ⟨#[]⟩ false (by decide) (λ h=>by first | rfl | cases h) (λ h=>by first | rfl | cases h),?_⟩
  first
   | exact (Below.refl _ _).alloc (a1 _) _
   | exact ((Below.refl _ _).alloc (a1 _) _).alloc (by simp) _
 by_cases h:s.data.toList = [45]
 .have a:s=⟨#[45]⟩:=uG (by first | (rw[h];done) | (rw[h];rfl));subst a;clear h c b;go_enter func325,ntmps325;go_wp2;refine bodyPost_ret (v:=.tuple #[.agg #[aD aE 0,aD aE 0,aL ⟨#[]⟩,aM none 0 0],aZ true]) (by simp[results,results325,go_sem]) rfl ⟨GV.plain 0 0 ⟨#[]⟩ true (by decide) (λ h=>by first | rfl | cases h) (λ h=>by first | rfl | cases h),?_⟩
  first
   | exact (Below.refl _ _).alloc (a1 _) _
   | exact ((Below.refl _ _).alloc (a1 _) _).alloc (by simp) _
 by_cases h:s.data.toList=ql
 .have a:s=⟨#[116,114,117,101]⟩:=uG (by first | (rw[h];done) | (rw[h];rfl));subst a;clear h c b;go_enter func325,ntmps325;go_wp2;refine bodyPost_ret (v:=.tuple #[.agg #[aD aE 7,aD aE 1,aL ⟨#[]⟩,aM none 0 0],aZ true]) (by simp[results,results325,go_sem]) rfl ⟨GV.plain 7 1 ⟨#[]⟩ true (by decide) (λ h=>by first | rfl | cases h) (λ h=>by first | rfl | cases h),?_⟩
  first
   | exact (Below.refl _ _).alloc (a1 _) _
   | exact ((Below.refl _ _).alloc (a1 _) _).alloc (by simp) _
 by_cases h:s.data.toList=lK
 .have a:s=⟨#[102,97,108,115,101]⟩:=uG (by first | (rw[h];done) | (rw[h];rfl));subst a;clear h c b;go_enter func325,ntmps325;go_wp2;refine bodyPost_ret (v:=.tuple #[.agg #[aD aE 7,aD aE 0,aL ⟨#[]⟩,aM none 0 0],aZ true]) (by simp[results,results325,go_sem]) rfl ⟨GV.plain 7 0 ⟨#[]⟩ true (by decide) (λ h=>by first | rfl | cases h) (λ h=>by first | rfl | cases h),?_⟩
  first
   | exact (Below.refl _ _).alloc (a1 _) _
   | exact ((Below.refl _ _).alloc (a1 _) _).alloc (by simp) _
 rename_i f d g;exact VE s w c b ⟨by assumption,by assumption,by assumption,by assumption⟩
structure RV (e:Ending) (w:World) (B:Nat) (s:List UInt8):Prop where
 ex:∃ (x:Val) (A:Option Addr) (c:Nat) (f:Int),e = a0 (.tuple #[.agg (BF x A c),aD aE f])/\Reads w w.heap.size 1 A x.l.length (bK aE x.l)/\(∀ ad,A=some ad->B<=ad.block)/\x.l.length<=4000000/\x.s.size<=4000000 /\
  (f=0->df x=0/\showT x.k x.n x.s.data.toList x.l=s)/\(f≠0->f=10/\x=⟨0,0,⟨#[]⟩,[]⟩/\∀ v:Val,df v=0->showT v.k v.n v.s.data.toList v.l≠s)
theorem acP {x v:Val} (h:(⟨x.k,x.n,x.s.data.toList,x.l⟩:Q)=⟨v.k,v.n,v.s.data.toList,v.l⟩):x=v:=by
 obtain⟨k,n,s,l⟩:=x;obtain⟨b,d,s',c⟩:=v;injection h with h1 h2 h3 h4;simp only at h1 h2 h3 h4;have a:s=s':=(uG h3).trans (uG (t:=s') rfl).symm;subst h1 h2 a h4;rfl
theorem acQ {s:List UInt8} (h:bW s=none):∀ v:Val,df v=0->showT v.k v.n v.s.data.toList v.l≠s:=λ v a e=>by
 have:=tC (x8 a).1;rw[e,h] at this;cases this
theorem Oi {s:List UInt8} {x:Val} (h:bW s=some ⟨x.k,x.n,x.s.data.toList,x.l⟩) (a:df x≠0\/showT x.k x.n x.s.data.toList x.l≠s):∀ v:Val,df v=0->showT v.k v.n v.s.data.toList v.l≠s:=λ v b e=>by
 have:=tC (x8 b).1;rw[e,h] at this;have:=acP (Option.some.inj this);subst this;rcases a with a | a
 .exact a b
 .exact a e
theorem FN (s:ByteArray) (w:World) (hs:s.size<=2000000) (o:Tab w) (hm:Mx w) :
  Calls lM 320 #[aL s] w λ e w'=>RV e w' w.heap.size s.data.toList/\DD w w':=by
 have HT:=qh o;have HM:=qh hm;clear o hm;go_enter func320,ntmps320;go_wp2_with fail;obtain⟨W,E⟩:=aG ((w.alloc (.cells #[aD aE 0,aD aE 0,aL ⟨#[]⟩,aM none 0 0] 65 (0,0))));have a:DD w W:=by rw[E];exact ((Below.refl _ w).alloc (a1 _) _)
 have B0:ah W (w.heap.size) 65 #[aD aE 0,aD aE 0,aL ⟨#[]⟩,aM none 0 0]:=by
  rw[E];have:=ah.new w 65 #[aD aE 0,aD aE 0,aL ⟨#[]⟩,aM none 0 0];exact this
 have ab:W.heap.size=w.heap.size+1:=by rw[E];simp
 rw[<- E];clear E ab;refine (VG s W hs (HM.o.below a)).mono ?_;rintro e r ⟨hg,p⟩;obtain⟨x,A,c,ok,rfl,H,hA,hl,X,q1,q2⟩:=hg.ex;have F:∀ ad,A=some ad->w.heap.size<ad.block:=λ ad h=>a5 B0.lt (hA ad h);have m:=qh (a3 H F);have HQ:=qh (a3 q1 q2);have B0:=B0.below p B0.lt;have a:=a.trans (p.mono a.size);clear hg p H hA q1 q2 F;go_upto_region 2 with (fail);obtain⟨W2,n⟩:=aG (r.alloc (.cells (BF x A c) 65 (0,0)));have l:DD r W2:=n▸(Below.refl _ r).alloc (a1 _) _;have B3:ah W2 r.heap.size 65 (BF x A c):=n▸ah.new r _ _;rw[<- n];have ac:=B0.lt;have B0:=B0.below l B0.lt;have D:=m.o.1.below l;have B:r.heap.size<=W2.heap.size:=l.size;have a:=a.trans (l.mono a.size);have m:=qh (a3 (D.more B) m.o.2);clear n l D;obtain⟨N,T,L,Q,O,P,R,J⟩:=ah.z4 B0;obtain⟨K,S,I,M⟩:=ah.c4 B3;cases ok
 .have G:=qh (acQ (HQ.o.2 rfl));go_wp2;obtain⟨C,k,u,y⟩:=dL B0 a (aD aE 0) (aD aE 0) (aL ⟨#[]⟩) (aM none 0 0);rw[<- k];clear k;obtain⟨q,d,g,b⟩:=ah.c4 u;refine bodyPost_ret (v:=.tuple #[.agg #[aD aE 0,aD aE 0,aL ⟨#[]⟩,aM none 0 0],aD aE 10]) (by simp[results,results320,go_sem,q,d,g,b]) rfl ⟨⟨⟨⟨0,0,⟨#[]⟩,[]⟩,none,0,10,rfl,Reads.none_,(λ _ h=>by cases h),by simp,by decide,(λ h=>absurd h (by decide)),(λ _=>⟨rfl,rfl,G.o⟩)⟩⟩,y⟩
 have HG:=qh (HQ.o.1 rfl);go_wp2_with fail;refine (check_any x A c W2.heap.size W2 (by unfold maxLen;omega) (by unfold maxLen;omega) m.o.1 (a1 _)).mono ?_;rintro e w3 ⟨rfl,i⟩;obtain⟨f,Y⟩:=af (df x);have Z:=qh Y;rw[Y];have B0:=B0.below i B0.lt;have B3:=B3.below i B3.lt;have m:=qh (a3 ((m.o.1.below i).more i.size) m.o.2);have a:=a.trans (i.mono a.size);clear Y i N T L Q O P R J K S I M;obtain⟨N,T,L,Q,O,P,R,J⟩:=ah.z4 B0;obtain⟨K,S,I,M⟩:=ah.c4 B3;by_cases h0:f=0;rotate_left
 .have ae:(f != 0)=true:=by simpa using h0
  have G:=qh (Oi HG.o (.inl (by rw[Z.o];exact h0)));clear h0;go_wp2;obtain⟨C,k,u,y⟩:=dL B0 a (aD aE 0) (aD aE 0) (aL ⟨#[]⟩) (aM none 0 0);rw[<- k];clear k;obtain⟨q,d,g,b⟩:=ah.c4 u;refine bodyPost_ret (v:=.tuple #[.agg #[aD aE 0,aD aE 0,aL ⟨#[]⟩,aM none 0 0],aD aE 10]) (by simp[results,results320,go_sem,q,d,g,b]) rfl ⟨⟨⟨⟨0,0,⟨#[]⟩,[]⟩,none,0,10,rfl,Reads.none_,(λ _ h=>by cases h),by simp,by decide,(λ h=>absurd h (by decide)),(λ _=>⟨rfl,rfl,G.o⟩)⟩⟩,y⟩
 subst h0;obtain⟨hq,ak,ag⟩:=x8 Z.o;have V:=qh hq;clear hq;go_wp2_with fail;refine (NU x.k x.n x.s x.l _ A c w3.heap.size w3 rfl V.o (by omega) (by omega) m.o.1 (a1 _) (HT.o.below a) (HM.o.below a)).mono ?_;rintro e w4 ⟨⟨t,rfl,ht⟩,j⟩;have mO:=qh ht;have B0:=B0.below j B0.lt;have B3:=B3.below j B3.lt;have z:=qh (a3 ((m.o.1.below j).more j.size) m.o.2);have a:=a.trans (j.mono a.size);clear ht j N T L Q O P R J K S I M;obtain⟨N,T,L,Q,O,P,R,J⟩:=ah.z4 B0;obtain⟨K,S,I,M⟩:=ah.c4 B3;by_cases he:t=s
 .have b0:(t.toList == s.toList)=true:=kH he;have HE:=qh (show showT x.k x.n x.s.data.toList x.l=s.data.toList by rw[<- mO.o,he]);clear he;go_wp2;obtain⟨C,k,u,y⟩:=dL B0 a (aD aE x.k) (aD aE x.n) (aL x.s) (aM A x.l.length c);have aa:=qh (k▸(((z.o.1.apart z.o.2 _).apart z.o.2 _).apart z.o.2 _).apart z.o.2 _:Reads C w4.heap.size 1 A x.l.length (bK aE x.l));have U:w4.heap.size<=C.heap.size:=by rw[k];simp[World.setCell]
  rw[<- k];clear k;obtain⟨q,d,g,b⟩:=ah.c4 u;refine bodyPost_ret (v:=.tuple #[.agg (BF x A c),aD aE 0]) (by simp[results,results320,go_sem,q,d,g,b]) rfl ⟨⟨⟨x,A,c,0,rfl,aa.o.more U,(λ ad h=>a6 (z.o.2 ad h)),hl,X,(λ _=>⟨Z.o,HE.o⟩),(λ h=>absurd rfl h)⟩⟩,y⟩
 .have b0:(t.toList == s.toList)=false:=dV he;have G:=qh (Oi HG.o (.inr (λ e=>he ((uG (mO.o.trans e)).trans (uG (t:=s) rfl).symm))));clear he;go_wp2;obtain⟨C,k,u,y⟩:=dL B0 a (aD aE 0) (aD aE 0) (aL ⟨#[]⟩) (aM none 0 0);rw[<- k];clear k;obtain⟨q,d,g,b⟩:=ah.c4 u;refine bodyPost_ret (v:=.tuple #[.agg #[aD aE 0,aD aE 0,aL ⟨#[]⟩,aM none 0 0],aD aE 10]) (by simp[results,results320,go_sem,q,d,g,b]) rfl ⟨⟨⟨⟨0,0,⟨#[]⟩,[]⟩,none,0,10,rfl,Reads.none_,(λ _ h=>by cases h),by simp,by decide,(λ h=>absurd h (by decide)),(λ _=>⟨rfl,rfl,G.o⟩)⟩⟩,y⟩
end
open Go.RowKit
abbrev Kp (g:Nat) (w w':World):Prop:=w.grownBy w' (some g)
theorem zo (g:Nat) (w:World):Kp g w w:=⟨rfl,rfl,rfl,a1 _,λ _ _ _=>rfl⟩
theorem Kp.trans {g:Nat} {w c w2:World} (h:Kp g w c) (a:Kp g c w2):Kp g w w2:=
 ⟨a.os.trans h.os,a.tape.trans h.tape,a.output.trans h.output,Nat.le_trans h.size a.size,λ k d b=>(a.block k (a5 d h.size) b).trans (h.block k d b)⟩
theorem Kp.of {g:Nat} {w w':World} (h:DD w w'):Kp g w w':=⟨h.os,h.tape,h.output,h.size,λ k a _=>h.block k a⟩
theorem Kp.below {g B:Nat} {w w':World} (h:Kp g w w') (c:B<=g) (b:B<=w.heap.size):Below B w w':=
 (Below.refl B w).grown h b (λ k a=>by injection a with a;omega)
theorem Kp.set {g:Nat} {w w':World} (h:Kp g w w') (i:Nat) (u:Value):Kp g w (w'.setCell ⟨g,i,none⟩ u):=
 h.trans ⟨rfl,rfl,rfl,by simp[World.setCell],λ k _ a=>Below.heap_setCell w' ⟨g,i,none⟩ u k (λ e=>a (by rw[e]))⟩
theorem Kp.alloc {g:Nat} {w w':World} (h:Kp g w w') (o:Obj):Kp g w (w'.alloc o):=h.trans (Kp.of ((Below.refl _ _).alloc (a1 _) o))
theorem mV (g:Nat) (w:World):∃ W,W=w.alloc (.cells #[aD aE 0,aD aE 0,aL ⟨#[]⟩,aD aE 0,aD aE 0,aL ⟨#[]⟩,aM none 0 0,aM none 0 0] 67 (0,0))/\Kp g w W/\ZB W w.heap.size/\W.heap.size=w.heap.size+1/\w.heap.size<W.heap.size/\DD w W:=⟨_,rfl,(zo g w).alloc _,ah.new w _ _,by simp,by simp,(Below.refl _ w).alloc (a1 _) _⟩
theorem Y6 (g:Nat) (w:World):∃ W,W=w.alloc (.cells #[aD aE 0,aD aE 0,aL ⟨#[]⟩,aD aE 0,aD aE 0,aL ⟨#[]⟩,aM none 0 0,aM none 0 0] 67 (0,0))/\Kp g w W/\Hid (ZB W w.heap.size)/\W.heap.size=w.heap.size+1/\w.heap.size<W.heap.size/\DD w W:=⟨_,rfl,(zo g w).alloc _,qh (ah.new w _ _),by simp,by simp,(Below.refl _ w).alloc (a1 _) _⟩
theorem Kp.cell {g:Nat} {w w':World} (h:Kp g w w') {a:Addr} (c:a.block≠g) {v:Value} (b:w.cell? a=some v):w'.cell? a=some v:=by
 rw[World.cell?_of_block (h.block a.block (block_lt_of_cell b) (λ e=>c (by injection e)))];exact b
structure ik (w:World) (p:Nat->Prop) (B size:Nat) (A:Option Addr) (n:Nat) (xs:List Value):Prop where
 r:Reads w B size A n xs
 l:0<n->∀ ad,A=some ad->p ad.block
def aK (p:Nat->Prop) (w w':World):Prop:=w.heap.size<=w'.heap.size/\∀ k,p k->k<w.heap.size->w'.heap[k]?=w.heap[k]?
theorem Kp.stay {g:Nat} {w w':World} (h:Kp g w w') {p:Nat->Prop} (a:∀ k,p k->k≠g):aK p w w':=⟨h.size,λ k b c=>h.block k c (λ e=>a k b (by injection e))⟩
theorem aK.of {p:Nat->Prop} {w w':World} (h:DD w w'):aK p w w':=⟨h.size,λ k _ a=>h.block k a⟩
theorem aK.grown {p:Nat->Prop} {w w':World} {a:Option Nat} (h:w.grownBy w' a) (b:∀ k,p k->some k≠a):aK p w w':=⟨h.size,λ k c d=>h.block k d (b k c)⟩
theorem ik.keep {w w':World} {p:Nat->Prop} {B size n:Nat} {A:Option Addr} {xs:List Value} (h:ik w p B size A n xs) (f:aK p w w'):ik w' p B size A n xs:=by
 refine⟨⟨h.r.1,λ c=>?_⟩,h.l⟩;obtain⟨ad,e,i,g⟩:=h.r.2 c;refine⟨ad,e,i,λ j u d=>?_⟩;have a:=g j u d;have b:=block_lt_of_cell a;rw[World.cell?_of_block (f.2 _ (by rw[iw];exact h.l c ad e) b)];exact a
theorem ik.up {w:World} {p:Nat->Prop} {B B' size n:Nat} {A:Option Addr} {xs:List Value} (h:ik w p B size A n xs) (a:B<=B'):ik w p B' size A n xs:=⟨h.r.more a,h.l⟩
inductive bY (w:World) (p:Nat->Prop) (B:Nat):Ex->List Value->Prop
 | mk {e:Ex} {A:Option Addr} {c:Nat} {A':Option Addr} {c':Nat} {cs:List Value} (hn:e.nm.size<=maxLen) (hs:e.v.s.size<=maxLen) (hl:e.v.l.length<=maxLen) (ha:e.ar.length<=maxLen)
   (hx:ik w p B 1 A e.v.l.length (bK aE e.v.l)) (hr:ik w p B 8 A' e.ar.length cs) (hi:∀ i (h:i<e.ar.length),bY w p B e.ar[i] ((cs.drop (i*8)).take 8)):bY w p B e (aA e A c A' c')
theorem bY.at_ {w:World} {p:Nat->Prop} {B:Nat} {e:Ex} {cs:List Value} (h:bY w p B e cs):bC w B e cs:=by
 induction h with
 | mk hn hs hl ha hx hr hi ih=>exact .mk hn hs hl ha hx.r hr.r ih
theorem bY.keep {w w':World} {p:Nat->Prop} {B:Nat} {e:Ex} {cs:List Value} (h:bY w p B e cs) (a:aK p w w'):bY w' p B e cs:=by
 induction h with
 | mk hn hs hl ha hx hr hi ih=>exact .mk hn hs hl ha (hx.keep a) (hr.keep a) ih
theorem bY.up {w:World} {p:Nat->Prop} {B B':Nat} {e:Ex} {cs:List Value} (h:bY w p B e cs) (a:B<=B'):bY w p B' e cs:=by
 induction h with
 | mk hn hs hl ha hx hr hi ih=>exact .mk hn hs hl ha (hx.up a) (hr.up a) ih
theorem bY.imp {w:World} {p q:Nat->Prop} {B:Nat} {e:Ex} {cs:List Value} (h:bY w p B e cs) (c:∀ k,p k->k<B->q k):bY w q B e cs:=by
 have a:∀ {size n:Nat} {A:Option Addr} {xs:List Value},ik w p B size A n xs->ik w q B size A n xs:=λ a=>⟨a.r,λ d ad e=>by
  obtain⟨f,b,g,-⟩:=a.r.2 d;rw[e] at b;injection b with b;subst b;exact c _ (a.l d ad e) g⟩
 induction h with
 | mk hn hs hl ha hx hr hi ih=>exact .mk hn hs hl ha (a hx) (a hr) ih
def bD (s:ByteArray) (i:Nat):Nat:=match dE s.data.toList i with
 | some t=>t.at_
 | none=>s.size
def bH (s:ByteArray) (i:Nat):List UInt8:=match dE s.data.toList i with
 | some t=>t.tx
 | none=>[]
def fD (s:ByteArray) (i:Nat):Bool:=match dE s.data.toList i with
 | some t=>t.touch
 | none=>false
def tb (l:List UInt8):ByteArray:=⟨l.toArray⟩
theorem jf (l:List UInt8):(tb l).data.toList=l:=by simp[tb]
theorem lU (l:List UInt8):(tb l).size=l.length:=by simp[tb,ByteArray.size]
theorem Y7 (s:ByteArray):tb s.data.toList=s:=by unfold tb;exact ByteArray.ext (by simp)
theorem J3 {a b:List UInt8} (h:tb a=tb b):a=b:=by rw[<- jf a,h,jf]
structure bI (w:World) (g:Nat) (s:ByteArray) (i:Nat):Prop where
 b:ah w g 346 #[aL s,aD aE (bD s i:Nat),aL (tb (bH s i)),aZ (fD s i)]
 i:i<=s.size
 s:s.size<=4000
theorem aN (s:ByteArray):s.data.toList.length=s.size:=by rw[Array.length_toList];rfl
theorem afu (s:ByteArray) {i:Nat} (a:i<=s.size):i<=bD s i/\bD s i+(bH s i).length<=s.size:=by
 unfold bD bH;cases h:dE s.data.toList i with
 | none=>exact⟨a,by simp⟩
 | some t =>
  have:=iV h;rw[aN] at this;dsimp only;omega
def yw (w:World) (g:Nat) (s:ByteArray) (r:uT) (e:Ending) (w':World):Prop:=match r with
 | .ok es l'=>∃ x i cs,es = [x]/\l'=wordsOf s.data.toList i/\e = a0 (.agg cs.toArray)/\bY w' (λ b=>w.heap.size<=b) w'.heap.size x cs/\bI w' g s i/\Kp g w w'
 | .err k=>e = .panicked [{ v:=.iface 342 (.agg #[aD aE (k:Nat)]),recovered:=false }]/\Kp g w w'
open Vtx
theorem acR (s:ByteArray) (i:Nat) {word:List UInt8} (h:word≠[]):lG (wordsOf s.data.toList i) word=(decide (bH s i=word) && !fD s i):=by
 unfold bH fD;rw[gy];cases dE s.data.toList i with
 | none=>show false=(decide (([]:List UInt8)=word) && !false);rw[decide_eq_false (λ e=>h e.symm)];rfl
 | some t=>simp[lG,Bool.and_comm]
theorem kY (s:ByteArray) (i:Nat):oZ s.data.toList.length (wordsOf s.data.toList i)=bD s i:=by
 unfold bD;rw[gy];cases dE s.data.toList i with
 | none=>exact aN s
 | some t=>rfl
theorem ai1 (a b:List UInt8):((tb a).toList == (tb b).toList)=decide (a=b):=by
 by_cases h:a=b
 .rw[decide_eq_true h];exact kH (by rw[h])
 .rw[decide_eq_false h];exact dV (λ e=>h (J3 e))
theorem vP (g:Nat) (s:ByteArray) (i:Nat) (w:World) (h:bI w g s i) (word:List UInt8) (m:word≠[]) :
  E5 289 #[aR (some ⟨g,0,none⟩),aL (tb word)] w (aZ (lG (wordsOf s.data.toList i) word)):=by
 have c2:=h.b.cell 2;have c3:=h.b.cell 3;have f:=qh (acR s i m);obtain⟨t,j⟩:=af (tb word);obtain⟨u,k⟩:=af (tb (bH s i));have l:(u.toList == t.toList)=decide (bH s i=word):=by rw[<- j,<- k];exact ai1 _ _
 obtain⟨b,a⟩:=af (decide (bH s i=word));obtain⟨d,c⟩:=af (fD s i);rw[a] at l;rw[j];have f:=qh (f.o.trans (by rw[a,c]));rw[k,c] at c2 c3;change w.cell? ⟨g,2,none⟩=some (aL u) at c2;change w.cell? ⟨g,3,none⟩=some (aZ d) at c3;clear a c j k h;cases b
 .go_enter func289,ntmps289;go_wp2_with fail;go_ret;exact⟨aH (by rw[f.o];rfl),rfl⟩
 .go_enter func289,ntmps289;go_wp2_with fail;go_ret;exact⟨aH (by rw[f.o];rfl),rfl⟩
abbrev IU (k:Nat):Ending:=.panicked [{ v:=.iface 342 (.agg #[aD aE (k:Nat)]),recovered:=false }]
theorem oN (g:Nat) (s:ByteArray) (i:Nat) (w:World) (h:bI w g s i) :
  Calls lM 256 #[aR (some ⟨g,0,none⟩)] w λ e w'=>e=IU (bD s i)/\w=w':=by
 have c1:w.cell? ⟨g,1,none⟩=some (aD aE (bD s i:Nat)):=h.b.cell 1;clear h;go_enter func256,ntmps256;go_wp2;exact⟨rfl,rfl,rfl⟩
theorem Oj {s:ByteArray} {E J:Nat} (a:J=E+bQ bF (s.data.toList.drop E)) (h:J<s.size):bD s E=J/\bH s E=(s.data.toList.drop J).take (dh (s.data.toList.drop J)) /\
  fD s E=(decide (J=E) && decide (0<E) && gp (s.data.toList.getD (E - 1) 0) && gp (s.data.toList.getD E 0)):=by
 have e:dE s.data.toList E=some ⟨J,(s.data.toList.drop J).take (dh (s.data.toList.drop J)),(decide (J=E) && decide (0<E) && gp (s.data.toList.getD (E - 1) 0) && gp (s.data.toList.getD E 0))⟩:=by
  unfold dE;rw[<- a,if_pos (by rw[aN];exact h),show decide (bQ bF (s.data.toList.drop E)=0)=decide (J=E) from decide_eq_decide.2 (by omega)]
 unfold bD bH fD;rw[e];exact⟨rfl,rfl,rfl⟩
theorem Ol {s:ByteArray} {E J:Nat} (a:J=E+bQ bF (s.data.toList.drop E)) (h:¬ J<s.size):bD s E=s.size/\bH s E = []/\fD s E=false:=by
 have e:dE s.data.toList E=none:=by
  unfold dE;rw[<- a,if_neg (by rw[aN];exact h)]
 unfold bD bH fD;rw[e];exact⟨rfl,rfl,rfl⟩
theorem lV {s:ByteArray} {i:Nat} (h:i<s.size):s.data.toList.getD i 0=s[i]:=by
 rw[List.getD_eq_getElem?_getD,List.getElem?_eq_getElem (by rw[aN];exact h)];rfl
theorem QR (s:ByteArray) (J L:Nat):s.extract J (J+L)=tb ((s.data.toList.drop J).take L):=by
 unfold tb;refine ByteArray.ext (Array.toList_inj.1 ?_);rw[Lib.extract_data];simp
theorem acS {w:World} {g:Nat} {T:TypeId} {a b c d:Value} (h:ah w g T #[a,b,c,d]) (u:Value):ah (w.setCell ⟨g,3,none⟩ u) g T #[a,b,c,u]:=h.bP 3 u
theorem acT {w:World} {g:Nat} {T:TypeId} {a b c d:Value} (h:ah w g T #[a,b,c,d]) (u:Value):ah (w.setCell ⟨g,1,none⟩ u) g T #[a,u,c,d]:=h.bP 1 u
theorem VI {w:World} {g:Nat} {T:TypeId} {a b c d:Value} (h:ah w g T #[a,b,c,d]) (u:Value):ah (w.setCell ⟨g,2,none⟩ u) g T #[a,b,u,d]:=h.bP 2 u
theorem Tz {g:Nat} {w w':World} (h:Kp g w w') (n:Nat):Kp g w (w'.drewN n):=h.trans (Kp.of ((Below.refl _ _).drewN n))
theorem next_any (g:Nat) (s:ByteArray) (i:Nat) (w:World) (h:bI w g s i) :
  Calls lM 254 #[aR (some ⟨g,0,none⟩)] w λ e w'=>e = a0 (.tuple #[])/\bI w' g s (bD s i+(bH s i).length)/\Kp g w w':=by
 have d:=afu s h.i;have X:=h.s;have m:=qh h.b;obtain⟨u,Y⟩:=af (tb (bH s i));have I:u.size=(bH s i).length:=by rw[<- Y,lU]
 rw[Y] at m;obtain⟨A,hA⟩:=af (bD s i);rw[hA] at m d ⊢;rw[<- I] at d ⊢;obtain⟨E,hE⟩:=af (A+u.size);rw[hE] at d ⊢;obtain⟨d0,M⟩:=af (fD s i);rw[M] at m;obtain⟨J,hJ⟩:=aG (E+bQ bF (s.data.toList.drop E));have ap:J<=s.size:=by
  have h1:=qo bF (s.data.toList.drop E);rw[List.length_drop,aN] at h1;omega
 obtain⟨T,hT⟩:=af (fD s E);have HJ:=qh hJ;have U:=qh hT;have k:w.cell? ⟨g,0,none⟩=some (aL s):=m.o.cell 0;have c1:w.cell? ⟨g,1,none⟩=some (aD aE (A:Nat)):=m.o.cell 1;have c2:w.cell? ⟨g,2,none⟩=some (aL u):=m.o.cell 2;have O:((A:Nat):Int)+(u.size:Nat)=(E:Nat):=by omega
 have ac:IntKind.i64.wrap (((A:Nat):Int)+(u.size:Nat))=(E:Nat):=by rw[O];exact IntWalk.i64_in _ (by omega)
 clear hJ hT M hA Y I h hE;go_enter func254,ntmps254;go_upto_region 0 with (fail);go_quiet (fail);obtain⟨W,Q⟩:=aG (w.drewN nq);have G:=qh (show Kp g w W by rw[Q];exact Tz (zo g w) nq);have K:=qh (show ah W g 346 #[aL s,aD aE (A:Nat),aL u,aZ d0] by rw[Q];exact m.o.drewN nq);rw[<- Q];clear k c1 c2 Q O ac;have k:W.cell? ⟨g,0,none⟩=some (aL s):=K.o.cell 0;have z3:W.frozen? ⟨g,3,none⟩=false:=K.o.frozen 3;have c3:W.cell? ⟨g,3,none⟩=some (aZ d0):=K.o.cell 3;go_wp2_with fail
 go_loop [3] (λ x=>∃ n:Nat,E<=n/\n<=s.size/\x = aD aE n/\Hid (J=n+bQ bF (s.data.toList.drop n))) (λ x=>s.size - (intOf x).toNat)
 case atStart=>exact⟨E,a1 _,d.2,rfl,HJ⟩
 case round =>
  obtain⟨n,ag,hn,rfl,HR⟩:=hrel;by_cases hlt:n<s.size
  .have aV:=qh hlt;by_cases h32:s[n].toNat=32
   .have HG:=qh (kX hlt (show bF s[n]=true from decide_eq_true ((toNat_eq s[n] 32 (by decide)).2 h32)) HR.o);have b1:((s[n].toNat:Int) == 32)=true:=by simp;omega
    clear h32;go_wp2_with fail
    go_round
    case rel=>exact⟨n+1,by omega,aV.o,by go_num,HG⟩
    case measure =>
     have:=aV.o;simp[intOf];omega
   .have C:=mQ hlt (show bF s[n]=false from decide_eq_false (λ e=>h32 ((toNat_eq s[n] 32 (by decide)).1 e))) HR.o;have b1:((s[n].toNat:Int) == 32)=false:=by simp;omega
    obtain⟨f,P,B⟩:=Oj HJ.o (by rw[C];exact hlt);subst C;have r:=qh (U.o.symm.trans B);have F:=qh (a3 f P);clear h32 f P B;go_upto_region 4 with (fail);go_cut [3] (λ x wc=>x = aD aE (J:Nat)/\wc=W.setCell ⟨g,3,none⟩ (aZ T))
    case first =>
     by_cases hJE:J=E
     .subst hJE;have o:(((J:Nat):Int) == ((J:Nat):Int))=true:=by simp
      by_cases hE0:0<J
      .have ae:J - 1<s.size:=by omega
       obtain⟨b1,l⟩:=af (gp s[J - 1]);obtain⟨b2,p⟩:=af (gp (s[J]'hlt));have q:=qh (show T=(b1 && b2) by rw[r.o,lV ae,lV hlt,l,p,decide_eq_true hE0];simp);have y:=qh (show Calls lM 57 #[.int .u8 (s[J - 1].toNat:Nat)] W λ e b=>e = a0 (aZ b1)/\W=b from by
        exact (iR s[J - 1] W).mono λ e b ⟨Z,hw⟩=>⟨Z.trans (congrArg (λ x=>a7 (aZ x)) l),hw⟩)
       have D:=qh (show Calls lM 57 #[.int .u8 ((s[J]'hlt).toNat:Nat)] W λ e b=>e = a0 (aZ b2)/\W=b from by
        exact (iR (s[J]'hlt) W).mono λ e b ⟨Z,hw⟩=>⟨Z.trans (congrArg (λ x=>a7 (aZ x)) p),hw⟩)
       have L:((J:Nat):Int) - 1=((J - 1:Nat):Int):=by omega
       have ar:IntKind.i64.wrap (((J:Nat):Int) - 1)=((J - 1:Nat):Int):=by rw[L];exact IntWalk.i64_in _ (by omega)
       have ab:(0:Int)<((J:Nat):Int):=by omega
       clear l p L;cases b1
       .go_wp2_with (go_at_call 57;(with_reducible refine y.o.mono ?_);rintro e H ⟨rfl,rfl⟩)
        go_meet
        exact⟨rfl,by rw[q.o];rfl⟩
       .cases b2
        .go_wp2_with (first | (go_at_call 57;(with_reducible refine y.o.mono ?_);rintro e H ⟨rfl,rfl⟩) | (go_at_call 57;(with_reducible refine D.o.mono ?_);rintro e H ⟨rfl,rfl⟩))
         go_meet
         exact⟨rfl,by rw[q.o];rfl⟩
        .go_wp2_with (first | (go_at_call 57;(with_reducible refine y.o.mono ?_);rintro e H ⟨rfl,rfl⟩) | (go_at_call 57;(with_reducible refine D.o.mono ?_);rintro e H ⟨rfl,rfl⟩))
         go_meet
         exact⟨rfl,by rw[q.o];rfl⟩
      .have q:=qh (show T=false by rw[r.o,decide_eq_false hE0];simp);have aa:¬ (0:Int)<((J:Nat):Int):=by omega
       go_wp2_with fail
       go_meet
       exact⟨rfl,by rw[q.o]⟩
     .have q:=qh (show T=false by rw[r.o,decide_eq_false hJE];simp);have o:(((J:Nat):Int) == ((E:Nat):Int))=false:=by simp;omega
      have ad:(J == E)=false:=by simp;omega
      go_wp2_with fail
      go_meet
      exact⟨rfl,by rw[q.o]⟩
    case rest =>
    obtain⟨rfl,rfl⟩:=hcut;have t:=acS K.o (aZ T);obtain⟨c,j⟩:=aG (W.setCell ⟨g,3,none⟩ (aZ T));have pK:=qh (show Kp g w c by rw[j];exact G.o.set 3 _);rw[<- j] at t;have a:=qh t;rw[<- j];clear t j k z3 c3;have k:c.cell? ⟨g,0,none⟩=some (aL s):=a.o.cell 0;have c1:c.cell? ⟨g,1,none⟩=some (aD aE (A:Nat)):=a.o.cell 1;have c2:c.cell? ⟨g,2,none⟩=some (aL u):=a.o.cell 2;have z1:c.frozen? ⟨g,1,none⟩=false:=a.o.frozen 1;have z2:c.frozen? ⟨g,2,none⟩=false:=a.o.frozen 2;have hL:=xY (s.data.toList.drop J);rw[List.length_drop,aN] at hL;obtain⟨N,V⟩:=af (J+dh (s.data.toList.drop J));have HN:=qh V;have am:(0:Int)<=((J:Nat):Int):=by omega
    have aq:((J:Nat):Int)<=((N:Nat):Int):=by omega
    have an:((N:Nat):Int)<=((s.size:Nat):Int):=by omega
    have ak:J<=N:=by omega
    have ao:N<=s.size:=by omega
    have VJ:((J:Nat):Int)<((s.size:Nat):Int):=by omega
    have oD:=qh (λ (w':World) (hc:w'.cell? ⟨g,0,none⟩=some (aL s))=>(show Calls lM 269 #[aR (some ⟨g,0,none⟩),aD aE (J:Nat)] w' λ e b=>e = a0 (aD aE (N:Nat))/\w'=b from by
     have h:=CV g s J w' hc hlt X
     rwa [V] at h))
    clear hL V;go_upto_region 7 with (fail);obtain⟨z,S⟩:=aG ((c.setCell ⟨g,1,none⟩ (aD aE (J:Nat))).setCell ⟨g,2,none⟩ (aL ⟨#[]⟩));have R:=qh (show ah z g 346 #[aL s,aD aE (J:Nat),aL ⟨#[]⟩,aZ T] by rw[S];exact VI (acT a.o _) _);have vS:=qh (show Kp g w z by rw[S];exact (pK.o.set 1 _).set 2 _);rw[<- S];clear S k c1 c2 z1 z2;have k:z.cell? ⟨g,0,none⟩=some (aL s):=R.o.cell 0;have c2:z.cell? ⟨g,2,none⟩=some (aL ⟨#[]⟩):=R.o.cell 2;have z2:z.frozen? ⟨g,2,none⟩=false:=R.o.frozen 2;go_region_with (go_at_call 269;(with_reducible refine (oD.o _ (by simpa using k)).mono ?_);rintro e H ⟨rfl,rfl⟩)
    all_goals
     go_wp2_with fail;go_end0;refine⟨rfl,⟨?_,d.2,X⟩,(vS.o.set 2 _).trans (Kp.of (Below.refl _ _).drew)⟩;rw[F.o.1,F.o.2,U.o,<- QR,HN.o];exact (VI R.o _).drew
  .have C:=pJ hlt HR.o;obtain⟨f,P,B⟩:=Ol HJ.o (by rw[C];exact hlt);have v:n=s.size:=by omega
   subst C;have PW:=qh (U.o.symm.trans B);have F:=qh (a3 (f.trans v.symm) P);have al:=qh v;have VJ:¬ ((J:Nat):Int)<((s.size:Nat):Int):=by omega
   clear f P B v;go_upto_region 4 with (fail);go_cut [3] (λ x wc=>x = aD aE (J:Nat)/\wc=W.setCell ⟨g,3,none⟩ (aZ T))
   case first =>
    by_cases hJE:J=E
    .subst hJE;have o:(((J:Nat):Int) == ((J:Nat):Int))=true:=by simp
     by_cases hE0:0<J
     .have ab:(0:Int)<((J:Nat):Int):=by omega
      go_wp2_with fail
      go_meet
      exact⟨rfl,by rw[PW.o]⟩
     .have aa:¬ (0:Int)<((J:Nat):Int):=by omega
      go_wp2_with fail
      go_meet
      exact⟨rfl,by rw[PW.o]⟩
    .have o:(((J:Nat):Int) == ((E:Nat):Int))=false:=by simp;omega
     have ad:(J == E)=false:=by simp;omega
     go_wp2_with fail
     go_meet
     exact⟨rfl,by rw[PW.o]⟩
   case rest =>
   obtain⟨rfl,rfl⟩:=hcut;have t:=acS K.o (aZ T);obtain⟨c,j⟩:=aG (W.setCell ⟨g,3,none⟩ (aZ T));have pK:=qh (show Kp g w c by rw[j];exact G.o.set 3 _);rw[<- j] at t;have a:=qh t;rw[<- j];clear t j k z3 c3;have k:c.cell? ⟨g,0,none⟩=some (aL s):=a.o.cell 0;have c1:c.cell? ⟨g,1,none⟩=some (aD aE (A:Nat)):=a.o.cell 1;have c2:c.cell? ⟨g,2,none⟩=some (aL u):=a.o.cell 2;have z1:c.frozen? ⟨g,1,none⟩=false:=a.o.frozen 1;have z2:c.frozen? ⟨g,2,none⟩=false:=a.o.frozen 2;go_wp2_with fail;go_end0;refine⟨rfl,⟨?_,d.2,X⟩,(pK.o.set 1 _).set 2 _⟩;rw[F.o.1,F.o.2,U.o];exact VI (acT a.o _) _
theorem take_any (g:Nat) (s:ByteArray) (i:Nat) (w:World) (h:bI w g s i) (word:List UInt8) (l:word≠[]) :
  Calls lM 323 #[aR (some ⟨g,0,none⟩),aL (tb word)] w λ e w'=>if lG (wordsOf s.data.toList i) word=true then e = a0 (.tuple #[])/\bI w' g s (bD s i+(bH s i).length)/\Kp g w w' else e=IU (bD s i)/\w=w':=by
 obtain⟨b,d⟩:=af (lG (wordsOf s.data.toList i) word);have c:=qh (vP g s i w h word l);have f:=qh (next_any g s i w h);have HW:=qh (oN g s i w h);rw[d] at c ⊢;clear d;cases b
 .go_enter func323,ntmps323;go_wp2_with (first | (go_at_call 289;(with_reducible refine c.o.mono ?_);rintro e a ⟨rfl,rfl⟩) | (go_at_call 256;(with_reducible refine HW.o.mono ?_);rintro e a ⟨rfl,rfl⟩));exact⟨rfl,rfl,rfl⟩
 .go_enter func323,ntmps323;go_wp2_with (first | (go_at_call 289;(with_reducible refine c.o.mono ?_);rintro e a ⟨rfl,rfl⟩) | (go_at_call 254;(with_reducible refine f.o.mono ?_);rintro e a ⟨rfl,k,j⟩));go_end0;exact⟨rfl,k,j⟩
theorem gG (o:Int) (A:Option Addr) (n:Nat) (c:Nat) (w:World) :
  CS 290 #[aD aE o,aM A n c] w (.agg #[aD aE 4,aD aE o,aL ⟨#[]⟩,aD aE 0,aD aE 0,aL ⟨#[]⟩,aM none 0 0,aM A n c]):=by
 go_enter func290,ntmps290;go_wp2;exact bodyPost_ret (v:=.agg #[aD aE 4,aD aE o,aL ⟨#[]⟩,aD aE 0,aD aE 0,aL ⟨#[]⟩,aM none 0 0,aM A n c]) (by simp[results,results290,go_sem]) rfl ⟨rfl,(Below.refl _ w).alloc (a1 _) _⟩
theorem tV (k m:Int) (s:ByteArray) (A:Option Addr) (n c:Nat) (w:World) :
  CS 321 #[.agg #[aD aE k,aD aE m,aL s,aM A n c]] w (.agg #[aD aE 1,aD aE 0,aL ⟨#[]⟩,aD aE k,aD aE m,aL s,aM A n c,aM none 0 0]):=by
 go_enter func321,ntmps321;go_wp2;exact bodyPost_ret (v:=.agg #[aD aE 1,aD aE 0,aL ⟨#[]⟩,aD aE k,aD aE m,aL s,aM A n c,aM none 0 0]) (by simp[results,results321,go_sem]) rfl ⟨rfl,((Below.refl _ w).alloc (a1 _) _).alloc (by simp) _⟩
def TM (w:World) (g:Nat):Prop:=∃ w0:World,Tab w0/\Mx w0/\w0.heap.size<=g/\DD w0 w
theorem TM.kp {w w':World} {g:Nat} (h:TM w g) (e:Kp g w w'):TM w' g:=by
 obtain⟨c,f,d,b,a⟩:=h;exact⟨c,f,d,b,a.trans (e.below b a.size)⟩
theorem TM.tab {w:World} {g:Nat} (h:TM w g):Tab w/\Mx w:=by
 obtain⟨d,c,b,e,a⟩:=h;exact⟨c.below a,b.below a⟩
def fE (F:FuncId) (nt:NT) (s:ByteArray) (L:List Tok):Prop:=∀ g i w,bI w g s i->TM w g->wordsOf s.data.toList i=L->Calls lM F #[aR (some ⟨g,0,none⟩)] w λ e w'=>yw w g s (Pz s.data.toList.length nt [] L) e w'
theorem bI.kp {w w':World} {g i:Nat} {s:ByteArray} (h:bI w g s i) (a:w'.heap[g]?=w.heap[g]?):bI w' g s i:=⟨by (try unfold ZB);unfold ah;rw[a];exact h.b,h.i,h.s⟩
theorem bI.alloc {w:World} {g i:Nat} {s:ByteArray} (h:bI w g s i) (o:Obj):bI (w.alloc o) g s i:=⟨h.b.alloc o,h.i,h.s⟩
theorem bI.below {w w':World} {g i:Nat} {s:ByteArray} (h:bI w g s i) (a:DD w w'):bI w' g s i:=⟨h.b.below a h.b.lt,h.i,h.s⟩
theorem QT {w w':World} {B size n g:Nat} {e:TypeId} {v:Value} {xs:List Value} (h:w.ownsRow B e size v n xs) (j:Kp g w w') (l:g<B):w'.ownsRow B e size v n xs:=by
 refine⟨h.1,h.2.imp id ?_⟩;rintro ⟨a,c,b,f,i,k,e3⟩;have d:a<w.heap.size:=(h.lt a (by rw[f];rfl)).2;exact⟨a,c,b,f,i,by rw[j.block a d (λ e=>by injection e with e;omega)];exact k,e3⟩
theorem DX {w:World} {b B size:Nat} {e:TypeId} {cs:List Value} (h:ah w b e cs.toArray) (c:B<=b) (a:cs.length=size):w.ownsRow B e size (aM (some ⟨b,0,none⟩) 1 1) 1 cs:=
 ⟨by rw[a,a8],.inr ⟨b,1,cs.toArray,rfl,c,h,a1 _,by unfold maxLen;omega,by simp[a],by rw[a8,<- a];simp⟩⟩
theorem vT {w:World} {p:Nat->Prop} {B:Nat} {e:Ex} {cs:List Value} (h:bY w p B e cs):cs.length=8:=by
 cases h;rfl
theorem TA:∀ (css:List (List Value)) (_:∀ c∈css,c.length=8) (i:Nat) (h:i<css.length),(css.flatten.drop (i*8)).take 8=css[i]
 | c :: r,hl,0,_=>by
  have:=hl c (List.mem_cons_self ..);simp[<- this]
 | c :: r,hl,i+1,h=>by
  have b:=hl c (List.mem_cons_self ..);rw[List.flatten_cons,show (i+1)*8=c.length+i*8 by omega,<- List.drop_drop,List.drop_left];exact TA r (λ x a=>hl x (List.mem_cons_of_mem _ a)) i (by simpa using h)
structure iO (w:World) (p:Nat->Prop) (es:List Ex) (css:List (List Value)):Prop where
 len:es.length=css.length
 ex:∀ j (h:j<es.length) (h':j<css.length),bY w p w.heap.size es[j] css[j]
theorem iO.keep {w w':World} {p:Nat->Prop} {d:List Ex} {css:List (List Value)} (h:iO w p d css) (c:aK p w w'):iO w' p d css:=⟨h.len,λ j a b=>((h.ex j a b).keep c).up c.1⟩
theorem iO.imp {w:World} {p q:Nat->Prop} {d:List Ex} {css:List (List Value)} (h:iO w p d css) (c:∀ k,p k->k<w.heap.size->q k):iO w q d css:=⟨h.len,λ j a b=>(h.ex j a b).imp c⟩
theorem iO.cells {w:World} {p:Nat->Prop} {d:List Ex} {css:List (List Value)} (h:iO w p d css):∀ c∈css,c.length=8:=λ c b=>by
 obtain⟨j,a,rfl⟩:=List.mem_iff_getElem.1 b;exact vT (h.ex j (by rw[h.len];exact a) a)
theorem iO.snoc {w:World} {p:Nat->Prop} {c:List Ex} {css:List (List Value)} (h:iO w p c css) {e:Ex} {cs:List Value} (d:bY w p w.heap.size e cs):iO w p (c ++ [e]) (css ++ [cs]):=by
 refine⟨by simp[h.len],λ j a b=>?_⟩;by_cases hj:j<c.length
 .rw[List.getElem_append_left hj,List.getElem_append_left (by rw[<- h.len];exact hj)];exact h.ex j hj _
 .have f:j=c.length:=by simp at a;omega
  subst f;rw[List.getElem_append_right (a1 _),List.getElem_append_right (by rw[h.len];exact a1 _)];simpa [h.len] using d
theorem iO.one {w:World} {p:Nat->Prop} {e:Ex} {cs:List Value} (b:bY w p w.heap.size e cs):iO w p [e] [cs]:=by
 have c:iO w p [] []:=⟨rfl,λ j a=>by simp at a⟩;exact c.snoc b
theorem acV {w:World} {L B:Nat} {a:List Ex} {css:List (List Value)} {A:Option Addr} {c:Nat} (o:Int) (h:iO w (λ b=>L<=b) a css) (s:L<=B) (j:w.ownsRow B 67 8 (aM A a.length c) a.length css.flatten) (p:a.length<=maxLen) :
  bY w (λ b=>L<=b) w.heap.size (jF o a) [aD aE 4,aD aE o,aL ⟨#[]⟩,aD aE 0,aD aE 0,aL ⟨#[]⟩,aM none 0 0,aM A a.length c]:=by
 have n:∀ ad,A=some ad->L<=ad.block:=λ ad e=>by
  subst e;rcases j.2 with ⟨q,-⟩ | ⟨l,m,k,f,r,-⟩
  .cases q
  .injection f with f _ _;injection f with f;subst f;show L<=l;omega
 refine bY.mk (e:=jF o a) (A:=none) (c:=0) (A':=A) (c':=c) (cs:=css.flatten) (show 0<=maxLen from a4 _) (show 0<=maxLen from a4 _) (show 0<=maxLen from a4 _) p ⟨Reads.none_,λ _ ad e=>by cases e⟩ ⟨Reads.fB j,λ _=>n⟩ (λ i g=>?_);have d:i<css.length:=by rw[<- h.len];exact g
 rw[TA css h.cells i d];exact h.ex i g d
theorem Zb:(lM.info? 67).map (λ i=>(i.zero,i.size,i.bytes))=some (some (.agg #[.int .i64 0,.int .i64 0,.string ByteArray.empty,.int .i64 0,.int .i64 0,.string ByteArray.empty,.slice none 0 0,.slice none 0 0]),8,112):=by kernel_rfl
end Go.Proofs.YtcnagconagpkcaaGreatDoor
