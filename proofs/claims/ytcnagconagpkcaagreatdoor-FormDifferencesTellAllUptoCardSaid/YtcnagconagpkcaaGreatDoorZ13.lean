/- Lemmas. -/
import Derived.Test.YtcnagconagpkcaaGreatDoorZ12
set_option maxHeartbeats 4000000
set_option maxRecDepth 100000
open Go.Value renaming int->aE, string->aM, slice->aR, pointer->aZ, bool->a0
open Go.IntKind renaming i64->aL
open Go.Ending renaming returned->a1, returned->a8
open Nat renaming le_refl->a2, zero_le->a5, lt_of_lt_of_le->a6, le_of_lt->a7, one_mul->a9
open Go.ByteArray renaming toList_eq->a3
open And renaming intro->a4
namespace Go.Proofs.YtcnagconagpkcaaGreatDoor
open Go.RowKit Dig Vtx
structure GV (e:Ending) (w:World) (B:Nat) (s:List UInt8):Prop where
 ex:∃ (x:Val) (A:Option Addr) (c:Nat) (ok:Bool),e = a1 (.tuple #[.agg (BK x A c),a0 ok])/\Reads w w.heap.size 1 A x.l.length (bF aL x.l)/\(∀ ad,A=some ad->B<=ad.block)/\x.l.length<=4000000/\x.s.size<=4000000 /\
  (ok=true->bV s=some ⟨x.k,x.n,x.s.data.toList,x.l⟩)/\(ok=false->bV s=none)
theorem GV.plain {w:World} {B:Nat} {s:List UInt8} (k n:Int) (t:ByteArray) (a:Bool) (b:t.size<=4000000) (c:a=true->bV s=some ⟨k,n,t.data.toList,[]⟩) (d:a=false->bV s=none) :
  GV (a1 (.tuple #[.agg #[aE aL k,aE aL n,aM t,aR none 0 0],a0 a])) w B s:=
 ⟨⟨⟨k,n,t,[]⟩,none,0,a,rfl,Reads.none_,(λ _ h=>by cases h),by simp,b,c,d⟩⟩
theorem Reads.apart {w:World} {B size n g i:Nat} {A:Option Addr} {xs:List Value} (h:Reads w B size A n xs) (f:∀ ad,A=some ad->g<ad.block) (u:Value):Reads (w.setCell ⟨g,i,none⟩ u) B size A n xs:=by
 refine⟨h.1,λ b=>?_⟩;obtain⟨ad,e,d,c⟩:=h.2 b;refine⟨ad,e,d,λ j x l=>?_⟩;rw[World.cell?_setCell_other w ⟨g,i,none⟩ (ad.add j) u (λ k=>by
  have m:=f ad e;have a:=congrArg Addr.block k;rw[iW] at a;exact absurd a (by show g≠ad.block;omega))]
 exact c j x l
theorem Jb (k:Int) (o:Option Int):∃ K N a,JW k o = .tuple #[.agg #[aE aL K,aE aL N,aM ⟨#[]⟩,aR none 0 0],a0 a]/\(a=true->K=k/\o=some N)/\(a=false->o=none):=by
 cases o with
 | none=>exact⟨0,0,false,rfl,(λ h=>by cases h),λ _=>rfl⟩
 | some n=>exact⟨k,n,true,rfl,(λ _=>⟨rfl,rfl⟩),λ h=>by cases h⟩
theorem Tj {s:ByteArray} (h:0<s.size):s.data.toList.head?=some s[0]:=by
 rw[List.head?_eq_getElem?,List.getElem?_eq_getElem (show 0<s.data.toList.length from h)];rfl
theorem head_ne {s:ByteArray} (h:0<s.size) {c:UInt8} (a:((s[0].toNat:Nat):Int)≠(c.toNat:Nat)):s.data.toList.head?≠some c:=by
 rw[Tj h];intro e;injection e with e;rw[e] at a;exact a rfl
theorem head_eq {s:ByteArray} (h:0<s.size) {c:UInt8} (a:((s[0].toNat:Nat):Int)=(c.toNat:Nat)):s.data.toList.head?=some c:=by
 rw[Tj h];congr 1;exact UInt8.toNat_inj.1 (by omega)
structure Odd (s:List UInt8):Prop where
 a:s≠[]
 b:s≠[45]
 c:s≠qL
 d:s≠ny
theorem YG {s:List UInt8} (h:Odd s) (a:s.head?=some 39):bV s=some ⟨3,0,Lib.replaceAll (Lib.trimSuffix s.tail [39]) [39,39] [39],[]⟩:=by
 unfold bV;rw[if_neg h.a,if_neg h.b,if_neg h.c,if_neg h.d,if_pos a]
theorem YH {s:List UInt8} (h:Odd s) (a:s.head?=some 35):bV s=if (dF s.tail).2 then some ⟨4,(dF s.tail).1,[],[]⟩ else none:=by
 unfold bV;rw[if_neg h.a,if_neg h.b,if_neg h.c,if_neg h.d,if_neg (by rw[a];simp),if_pos a]
theorem Vh {s:List UInt8} (h:Odd s) (a:s.head?=some 123):bV s=(jG s).map (⟨5,0,[],·⟩):=by
 unfold bV;rw[if_neg h.a,if_neg h.b,if_neg h.c,if_neg h.d,if_neg (by rw[a];simp),if_neg (by rw[a];simp),if_pos a]
theorem YI {s:List UInt8} (h:Odd s) (a:s.head?=some 64):bV s=(jm s.tail).map (⟨6,·,[],[]⟩):=by
 unfold bV;rw[if_neg h.a,if_neg h.b,if_neg h.c,if_neg h.d,if_neg (by rw[a];simp),if_neg (by rw[a];simp),if_neg (by rw[a];simp),if_pos a]
theorem Vj {s:List UInt8} (h:Odd s) (f:s.head?≠some 39) (g:s.head?≠some 35) (a:s.head?≠some 123) (c:s.head?≠some 64) (e:s≠w1T) (b:s≠w2T) (d:s≠w3T):bV s=(jF s).map (⟨2,·,[],[]⟩):=by
 unfold bV;rw[if_neg h.a,if_neg h.b,if_neg h.c,if_neg h.d,if_neg f,if_neg g,if_neg a,if_neg c,if_neg e,if_neg b,if_neg d]
theorem abS (s:List UInt8):(Lib.replaceAll s [39,39] [39]).length<=s.length:=by
 rw[lH (by simp),MZ]
 induction s using Us.induct with
 | case1 a b r h ih=>rw[Us,if_pos h];simp only[List.length_cons];omega
 | case2 a b r h ih=>rw[Us,if_neg h];simp only[List.length_cons] at *;omega
 | case3 l h =>
  rcases l with _ | ⟨a,_ | ⟨b,r⟩⟩
  .exact a2 _
  .exact a2 _
  .exact absurd rfl (h a b r)
theorem Vk (s:ByteArray) (w:World) (hs:s.size<=2000000) (hm:Mx w) (P:Odd s.data.toList) :
  Calls Tryz.prog 325 #[aM s] w λ e w'=>GV e w' w.heap.size s.data.toList/\EG w w':=by
 have HM:=qh hm;have C:=qh P;have ac:s.data.toList.length=s.size:=rfl;have e1:s.toList.isEmpty=false:=by rw[a3];simpa using P.a
 have e2:(s.toList == [45])=false:=by rw[a3,beq_eq_false_iff_ne];exact P.b
 have e3:(s.toList == [116,114,117,101])=false:=by rw[a3,beq_eq_false_iff_ne];exact P.c
 have e4:(s.toList == [102,97,108,115,101])=false:=by rw[a3,beq_eq_false_iff_ne];exact P.d
 have G:0<s.size:=by
  rcases Nat.eq_zero_or_pos s.size with h | h
  .exact absurd (List.eq_nil_of_length_eq_zero (by rw[ac];exact h)) P.a
  .exact h
 have HX:=qh (show (s.extract 1 s.size).data.toList=s.data.toList.tail by
  rw[Lib.extract_data,List.take_of_length_le (by simp),List.drop_one])
 have ao:(s.extract 1 s.size).size<=2000000:=by rw[ByteArray.size_extract];omega
 have d:EG w (w.alloc (.cells #[aE aL 0,aE aL 0,aM ⟨#[]⟩,aR none 0 0] 65 (0,0))):=(Below.refl _ _).alloc (a2 _) _;have b:=ag.new w 65 #[aE aL 0,aE aL 0,aM ⟨#[]⟩,aR none 0 0];obtain⟨W,hW⟩:=aH (w.alloc (.cells #[aE aL 0,aE aL 0,aM ⟨#[]⟩,aR none 0 0] 65 (0,0)));have HW:=qh hW;rw[<- hW] at d b;clear hm P ac hW;by_cases qo:((s[0].toNat:Nat):Int)=39
 .have aq:(((s[0].toNat:Nat):Int) == 39)=true:=by simpa using qo
  have p:=qh (YG C.o (head_eq (c:=39) G qo));clear qo;go_enter Tryz.func325,Tryz.ntmps325;go_wp2_with fail;rw[<- HW.o];refine (Tf (s.extract 1 s.size) ⟨#[39]⟩ W ao).mono ?_;rintro e E ⟨⟨Q,rfl,U⟩,rfl⟩;have ar:Q.size<=2000000:=by
   have:=Lib.trimSuffix_le (s.extract 1 s.size).data.toList [39];rw[oG U];have h2:(s.extract 1 s.size).data.toList.length=(s.extract 1 s.size).size:=rfl;show (Lib.trimSuffix (s.extract 1 s.size).data.toList [39]).length<=_;omega
  have aD:=qh (show Q.data.toList=Lib.trimSuffix s.data.toList.tail [39] by rw[U,HX.o]);clear U;go_wp2_with fail;refine (wH Q ⟨#[39,39]⟩ ⟨#[39]⟩ W ar (by decide) (by decide) (HM.o.below d)).mono ?_;rintro e w2 ⟨⟨t2,rfl,R⟩,O⟩;have ax:t2.size<=4000000:=by
   rw[oG R];have:=abS Q.data.toList;have h2:Q.data.toList.length=Q.size:=rfl;show (Lib.replaceAll Q.data.toList [39,39] [39]).length<=_;omega
  have HE:=qh (show bV s.data.toList=some ⟨3,0,t2.data.toList,[]⟩ by rw[p.o,R,<- aD.o]);have B0:=b.below O b.lt;have t:=d.trans (O.mono d.size);clear R O;obtain⟨V,L,X,J,S,M,I,T⟩:=ag.z4 B0;go_wp2;obtain⟨D,n,y,r⟩:=dU B0 t (aE aL 3) (aE aL 0) (aM t2) (aR none 0 0);rw[<- n];clear n;obtain⟨x,f,g,j⟩:=ag.c4 y;refine bodyPost_ret (v:=.tuple #[.agg #[aE aL 3,aE aL 0,aM t2,aR none 0 0],a0 true]) (by simp[results,Tryz.results325,go_sem,x,f,g,j]) rfl ⟨GV.plain 3 0 t2 true ax (λ _=>HE.o) (λ h=>by cases h),r⟩
 have aq:(((s[0].toNat:Nat):Int) == 39)=false:=by simpa using qo
 have ak:=qh (head_ne (c:=39) G qo);clear qo;by_cases h35:((s[0].toNat:Nat):Int)=35
 .have aw:(((s[0].toNat:Nat):Int) == 35)=true:=by simpa using h35
  have p:=qh (YH C.o (head_eq (c:=35) G h35));obtain⟨a,q,m,am,ha⟩:=kJ (s.extract 1 s.size).data.toList;have an:=qh am;have HE:=qh (show bV s.data.toList=if q then some ⟨4,(a:Nat),[],[]⟩ else none by rw[p.o,<- HX.o,m]);clear h35 m am;go_enter Tryz.func325,Tryz.ntmps325;go_wp2_with fail;rw[<- HW.o];refine (nS (s.extract 1 s.size) W).mono ?_;rw[an.o];rintro e E ⟨rfl,rfl⟩;obtain⟨V,L,X,J,S,M,I,T⟩:=ag.z4 b;go_wp2;obtain⟨D,n,y,r⟩:=dU b d (aE aL 4) (aE aL (a:Nat)) (aM ⟨#[]⟩) (aR none 0 0);rw[<- n];clear n;obtain⟨x,f,g,j⟩:=ag.c4 y;refine bodyPost_ret (v:=.tuple #[.agg #[aE aL 4,aE aL (a:Nat),aM ⟨#[]⟩,aR none 0 0],a0 q]) (by simp[results,Tryz.results325,go_sem,x,f,g,j]) rfl ⟨GV.plain 4 a ⟨#[]⟩ q (by decide) (λ h=>by rw[HE.o,h];rfl) (λ h=>by rw[HE.o,h];rfl),r⟩
 have aw:(((s[0].toNat:Nat):Int) == 35)=false:=by simpa using h35
 have ab:=qh (head_ne (c:=35) G h35);clear h35;by_cases iq:((s[0].toNat:Nat):Int)=123
 .have ay:(((s[0].toNat:Nat):Int) == 123)=true:=by simpa using iq
  have p:=qh (Vh C.o (head_eq (c:=123) G iq));clear iq;go_enter Tryz.func325,Tryz.ntmps325;go_wp2_with fail;rw[<- HW.o];refine (Oc s W hs (HM.o.below d)).mono ?_;rintro e E ⟨hr,o⟩;obtain⟨A,c,l,q,rfl,al,hA,hl,q1,q2⟩:=hr.ex;have Z:∀ ad,A=some ad->w.heap.size<ad.block:=λ ad h=>a6 b.lt (hA ad h);have Y:=qh (a4 al Z);have F:=qh (a4 q1 q2);have B0:=b.below o b.lt;have t:=d.trans (o.mono d.size);clear hr o al hA q1 q2 Z;obtain⟨V,L,X,J,S,M,I,T⟩:=ag.z4 B0;go_wp2;obtain⟨D,n,y,r⟩:=dU B0 t (aE aL 5) (aE aL 0) (aM ⟨#[]⟩) (aR A l.length c);have ap:=qh (n▸(((Y.o.1.apart Y.o.2 _).apart Y.o.2 _).apart Y.o.2 _).apart Y.o.2 _:Reads D E.heap.size 1 A l.length (bF aL l));have aA:E.heap.size<=D.heap.size:=by rw[n];simp[World.setCell]
  rw[<- n];clear n;obtain⟨x,f,g,j⟩:=ag.c4 y;refine bodyPost_ret (v:=.tuple #[.agg #[aE aL 5,aE aL 0,aM ⟨#[]⟩,aR A l.length c],a0 q]) (by simp[results,Tryz.results325,go_sem,x,f,g,j]) rfl ⟨⟨⟨⟨5,0,⟨#[]⟩,l⟩,A,c,q,rfl,ap.o.more aA,(λ ad h=>a7 (Y.o.2 ad h)),by show l.length<=_;omega,by show 0<=_;omega,(λ h=>by rw[p.o,F.o.1 h];rfl),(λ h=>by rw[p.o,F.o.2 h];rfl)⟩⟩,r⟩
 have ay:(((s[0].toNat:Nat):Int) == 123)=false:=by simpa using iq
 have ae:=qh (head_ne (c:=123) G iq);clear iq;by_cases h64:((s[0].toNat:Nat):Int)=64
 .have av:(((s[0].toNat:Nat):Int) == 64)=true:=by simpa using h64
  have p:=qh (YI C.o (head_eq (c:=64) G h64));clear h64;obtain⟨K,N,q,hv,z,B⟩:=Jb 6 (jm s.data.toList.tail);have HV:=qh hv;have F:=qh (show (q=true->bV s.data.toList=some ⟨K,N,[],[]⟩)/\(q=false->bV s.data.toList=none) from ⟨λ h=>by rw[p.o];obtain⟨e1,e2⟩:=z h;rw[e2,e1];rfl,λ h=>by rw[p.o,B h];rfl⟩);clear hv z B;go_enter Tryz.func325,Tryz.ntmps325;go_wp2_with fail;rw[<- HW.o];refine (Oe s W hs (by omega) (HM.o.below d)).mono ?_;rw[HV.o];rintro e E ⟨rfl,o⟩;have B0:=b.below o b.lt;have t:=d.trans (o.mono d.size);clear o;obtain⟨V,L,X,J,S,M,I,T⟩:=ag.z4 B0;go_wp2;obtain⟨D,n,y,r⟩:=dU B0 t (aE aL K) (aE aL N) (aM ⟨#[]⟩) (aR none 0 0);rw[<- n];clear n;obtain⟨x,f,g,j⟩:=ag.c4 y;refine bodyPost_ret (v:=.tuple #[.agg #[aE aL K,aE aL N,aM ⟨#[]⟩,aR none 0 0],a0 q]) (by simp[results,Tryz.results325,go_sem,x,f,g,j]) rfl ⟨GV.plain K N ⟨#[]⟩ q (by decide) F.o.1 F.o.2,r⟩
 have av:(((s[0].toNat:Nat):Int) == 64)=false:=by simpa using h64
 have aa:=qh (head_ne (c:=64) G h64);clear h64;have i0:∀ w,(Instr.index 348 (.agg #[aM ⟨#[]⟩,aM ⟨#[100,111,110,116,107,110,111,119]⟩,aM ⟨#[114,101,102,117,115,101,100]⟩,aM ⟨#[110,111,97,110,115,119,101,114]⟩]) (aE aL 0)).run Tryz.prog w = .ok (aM ⟨#[]⟩) w:=λ _=>by kernel_rfl
 have i1:∀ w,(Instr.index 348 (.agg #[aM ⟨#[]⟩,aM ⟨#[100,111,110,116,107,110,111,119]⟩,aM ⟨#[114,101,102,117,115,101,100]⟩,aM ⟨#[110,111,97,110,115,119,101,114]⟩]) (aE aL 1)).run Tryz.prog w = .ok (aM ⟨#[100,111,110,116,107,110,111,119]⟩) w:=λ _=>by kernel_rfl
 have i2:∀ w,(Instr.index 348 (.agg #[aM ⟨#[]⟩,aM ⟨#[100,111,110,116,107,110,111,119]⟩,aM ⟨#[114,101,102,117,115,101,100]⟩,aM ⟨#[110,111,97,110,115,119,101,114]⟩]) (aE aL 2)).run Tryz.prog w = .ok (aM ⟨#[114,101,102,117,115,101,100]⟩) w:=λ _=>by kernel_rfl
 have i3:∀ w,(Instr.index 348 (.agg #[aM ⟨#[]⟩,aM ⟨#[100,111,110,116,107,110,111,119]⟩,aM ⟨#[114,101,102,117,115,101,100]⟩,aM ⟨#[110,111,97,110,115,119,101,114]⟩]) (aE aL 3)).run Tryz.prog w = .ok (aM ⟨#[110,111,97,110,115,119,101,114]⟩) w:=λ _=>by kernel_rfl
 have QD:=qh (λ E w2 w3=>Vj C.o ak.o ab.o ae.o aa.o E w2 w3);clear ak ab ae aa;by_cases m:s.data.toList=w1T
 .have g0:(([]:List UInt8) == s.toList)=false:=by rw[a3,beq_eq_false_iff_ne];exact λ e=>C.o.a e.symm
  have g1:(([100,111,110,116,107,110,111,119]:List UInt8) == s.toList)=true:=by rw[a3,m];rfl
  have p:=qh (show bV s.data.toList=some ⟨1,1,[],[]⟩ by rw[m];rfl);clear m QD;go_enter Tryz.func325,Tryz.ntmps325;go_wp2;rw[<- HW.o]
  go_loop [70] (λ i=>∃ k:Nat,k<=1/\i = aE aL k) (λ i=>5 - (intOf i).toNat)
  case atStart=>exact⟨0,a5 _,rfl⟩
  case round =>
   obtain⟨k,H,rfl⟩:=hrel;have u:k=0\/k=1:=by omega
   clear H;rcases u with rfl | rfl
   .go_wp2
    go_round
    case rel=>exact⟨1,by omega,by first | rfl | go_num⟩
    case measure=>simp[intOf]
   .have V:W.cell? ⟨w.heap.size,0,none⟩=some (aE aL 0):=b.cell 0;have L:W.frozen? ⟨w.heap.size,0,none⟩=false:=b.frozen 0;have X:W.cell? ⟨w.heap.size,1,none⟩=some (aE aL 0):=b.cell 1;have J:W.frozen? ⟨w.heap.size,1,none⟩=false:=b.frozen 1;have S:W.cell? ⟨w.heap.size,2,none⟩=some (aM ⟨#[]⟩):=b.cell 2;have M:W.frozen? ⟨w.heap.size,2,none⟩=false:=b.frozen 2;have I:W.cell? ⟨w.heap.size,3,none⟩=some (aR none 0 0):=b.cell 3;have T:W.frozen? ⟨w.heap.size,3,none⟩=false:=b.frozen 3;go_wp2;obtain⟨D,n,y,r⟩:=dU b d (aE aL 1) (aE aL 1) (aM ⟨#[]⟩) (aR none 0 0);rw[<- n];clear n;obtain⟨x,f,g,j⟩:=ag.c4 y;refine bodyPost_ret (v:=.tuple #[.agg #[aE aL 1,aE aL 1,aM ⟨#[]⟩,aR none 0 0],a0 true]) (by simp[results,Tryz.results325,go_sem,x,f,g,j]) rfl ⟨GV.plain 1 1 ⟨#[]⟩ true (by decide) (λ _=>p.o) (λ h=>by cases h),r⟩
 by_cases hw2:s.data.toList=w2T
 .have g0:(([]:List UInt8) == s.toList)=false:=by rw[a3,beq_eq_false_iff_ne];exact λ e=>C.o.a e.symm
  have g1:(([100,111,110,116,107,110,111,119]:List UInt8) == s.toList)=false:=by rw[a3,beq_eq_false_iff_ne];exact λ e=>m e.symm
  have g2:(([114,101,102,117,115,101,100]:List UInt8) == s.toList)=true:=by rw[a3,hw2];rfl
  have p:=qh (show bV s.data.toList=some ⟨1,2,[],[]⟩ by rw[hw2];rfl);clear m hw2 QD;go_enter Tryz.func325,Tryz.ntmps325;go_wp2;rw[<- HW.o]
  go_loop [70] (λ i=>∃ k:Nat,k<=2/\i = aE aL k) (λ i=>5 - (intOf i).toNat)
  case atStart=>exact⟨0,a5 _,rfl⟩
  case round =>
   obtain⟨k,H,rfl⟩:=hrel;have u:k=0\/k=1\/k=2:=by omega
   clear H;rcases u with rfl | rfl | rfl
   .go_wp2
    go_round
    case rel=>exact⟨1,by omega,by first | rfl | go_num⟩
    case measure=>simp[intOf]
   .go_wp2
    go_round
    case rel=>exact⟨2,by omega,by first | rfl | go_num⟩
    case measure=>simp[intOf]
   .have V:W.cell? ⟨w.heap.size,0,none⟩=some (aE aL 0):=b.cell 0;have L:W.frozen? ⟨w.heap.size,0,none⟩=false:=b.frozen 0;have X:W.cell? ⟨w.heap.size,1,none⟩=some (aE aL 0):=b.cell 1;have J:W.frozen? ⟨w.heap.size,1,none⟩=false:=b.frozen 1;have S:W.cell? ⟨w.heap.size,2,none⟩=some (aM ⟨#[]⟩):=b.cell 2;have M:W.frozen? ⟨w.heap.size,2,none⟩=false:=b.frozen 2;have I:W.cell? ⟨w.heap.size,3,none⟩=some (aR none 0 0):=b.cell 3;have T:W.frozen? ⟨w.heap.size,3,none⟩=false:=b.frozen 3;go_wp2;obtain⟨D,n,y,r⟩:=dU b d (aE aL 1) (aE aL 2) (aM ⟨#[]⟩) (aR none 0 0);rw[<- n];clear n;obtain⟨x,f,g,j⟩:=ag.c4 y;refine bodyPost_ret (v:=.tuple #[.agg #[aE aL 1,aE aL 2,aM ⟨#[]⟩,aR none 0 0],a0 true]) (by simp[results,Tryz.results325,go_sem,x,f,g,j]) rfl ⟨GV.plain 1 2 ⟨#[]⟩ true (by decide) (λ _=>p.o) (λ h=>by cases h),r⟩
 by_cases hw3:s.data.toList=w3T
 .have g0:(([]:List UInt8) == s.toList)=false:=by rw[a3,beq_eq_false_iff_ne];exact λ e=>C.o.a e.symm
  have g1:(([100,111,110,116,107,110,111,119]:List UInt8) == s.toList)=false:=by rw[a3,beq_eq_false_iff_ne];exact λ e=>m e.symm
  have g2:(([114,101,102,117,115,101,100]:List UInt8) == s.toList)=false:=by rw[a3,beq_eq_false_iff_ne];exact λ e=>hw2 e.symm
  have g3:(([110,111,97,110,115,119,101,114]:List UInt8) == s.toList)=true:=by rw[a3,hw3];rfl
  have p:=qh (show bV s.data.toList=some ⟨1,3,[],[]⟩ by rw[hw3];rfl);clear m hw2 hw3 QD;go_enter Tryz.func325,Tryz.ntmps325;go_wp2;rw[<- HW.o]
  go_loop [70] (λ i=>∃ k:Nat,k<=3/\i = aE aL k) (λ i=>5 - (intOf i).toNat)
  case atStart=>exact⟨0,a5 _,rfl⟩
  case round =>
   obtain⟨k,H,rfl⟩:=hrel;have u:k=0\/k=1\/k=2\/k=3:=by omega
   clear H;rcases u with rfl | rfl | rfl | rfl
   .go_wp2
    go_round
    case rel=>exact⟨1,by omega,by first | rfl | go_num⟩
    case measure=>simp[intOf]
   .go_wp2
    go_round
    case rel=>exact⟨2,by omega,by first | rfl | go_num⟩
    case measure=>simp[intOf]
   .go_wp2
    go_round
    case rel=>exact⟨3,by omega,by first | rfl | go_num⟩
    case measure=>simp[intOf]
   .have V:W.cell? ⟨w.heap.size,0,none⟩=some (aE aL 0):=b.cell 0;have L:W.frozen? ⟨w.heap.size,0,none⟩=false:=b.frozen 0;have X:W.cell? ⟨w.heap.size,1,none⟩=some (aE aL 0):=b.cell 1;have J:W.frozen? ⟨w.heap.size,1,none⟩=false:=b.frozen 1;have S:W.cell? ⟨w.heap.size,2,none⟩=some (aM ⟨#[]⟩):=b.cell 2;have M:W.frozen? ⟨w.heap.size,2,none⟩=false:=b.frozen 2;have I:W.cell? ⟨w.heap.size,3,none⟩=some (aR none 0 0):=b.cell 3;have T:W.frozen? ⟨w.heap.size,3,none⟩=false:=b.frozen 3;go_wp2;obtain⟨D,n,y,r⟩:=dU b d (aE aL 1) (aE aL 3) (aM ⟨#[]⟩) (aR none 0 0);rw[<- n];clear n;obtain⟨x,f,g,j⟩:=ag.c4 y;refine bodyPost_ret (v:=.tuple #[.agg #[aE aL 1,aE aL 3,aM ⟨#[]⟩,aR none 0 0],a0 true]) (by simp[results,Tryz.results325,go_sem,x,f,g,j]) rfl ⟨GV.plain 1 3 ⟨#[]⟩ true (by decide) (λ _=>p.o) (λ h=>by cases h),r⟩
 have g0:(([]:List UInt8) == s.toList)=false:=by rw[a3,beq_eq_false_iff_ne];exact λ e=>C.o.a e.symm
 have g1:(([100,111,110,116,107,110,111,119]:List UInt8) == s.toList)=false:=by rw[a3,beq_eq_false_iff_ne];exact λ e=>m e.symm
 have g2:(([114,101,102,117,115,101,100]:List UInt8) == s.toList)=false:=by rw[a3,beq_eq_false_iff_ne];exact λ e=>hw2 e.symm
 have g3:(([110,111,97,110,115,119,101,114]:List UInt8) == s.toList)=false:=by rw[a3,beq_eq_false_iff_ne];exact λ e=>hw3 e.symm
 have p:=qh (QD.o m hw2 hw3);clear m hw2 hw3 QD;go_enter Tryz.func325,Tryz.ntmps325;go_wp2;rw[<- HW.o]
 go_loop [70] (λ i=>∃ k:Nat,k<=4/\i = aE aL k) (λ i=>5 - (intOf i).toNat)
 case atStart=>exact⟨0,a5 _,rfl⟩
 case round =>
  obtain⟨k,H,rfl⟩:=hrel;have u:k=0\/k=1\/k=2\/k=3\/k=4:=by omega
  clear H;rcases u with rfl | rfl | rfl | rfl | rfl
  .go_wp2
   go_round
   case rel=>exact⟨1,by omega,by first | rfl | go_num⟩
   case measure=>simp[intOf]
  .go_wp2
   go_round
   case rel=>exact⟨2,by omega,by first | rfl | go_num⟩
   case measure=>simp[intOf]
  .go_wp2
   go_round
   case rel=>exact⟨3,by omega,by first | rfl | go_num⟩
   case measure=>simp[intOf]
  .go_wp2
   go_round
   case rel=>exact⟨4,by omega,by first | rfl | go_num⟩
   case measure=>simp[intOf]
  .obtain⟨K,N,q,hv,z,B⟩:=Jb 2 (jF s.data.toList);have HV:=qh hv;have F:=qh (show (q=true->bV s.data.toList=some ⟨K,N,[],[]⟩)/\(q=false->bV s.data.toList=none) from ⟨λ h=>by rw[p.o];obtain⟨e1,e2⟩:=z h;rw[e2,e1];rfl,λ h=>by rw[p.o,B h];rfl⟩);clear hv z B;go_wp2_with fail;refine (FD s W hs (HM.o.below d)).mono ?_;rw[HV.o];rintro e E ⟨rfl,o⟩;have B0:=b.below o b.lt;have t:=d.trans (o.mono d.size);clear o;obtain⟨V,L,X,J,S,M,I,T⟩:=ag.z4 B0;go_wp2;obtain⟨D,n,y,r⟩:=dU B0 t (aE aL K) (aE aL N) (aM ⟨#[]⟩) (aR none 0 0);rw[<- n];clear n;obtain⟨x,f,g,j⟩:=ag.c4 y;refine bodyPost_ret (v:=.tuple #[.agg #[aE aL K,aE aL N,aM ⟨#[]⟩,aR none 0 0],a0 q]) (by simp[results,Tryz.results325,go_sem,x,f,g,j]) rfl ⟨GV.plain K N ⟨#[]⟩ q (by decide) F.o.1 F.o.2,r⟩
theorem Vl (s:ByteArray) (w:World) (b:s.size<=2000000) (c:Mx w) :
  Calls Tryz.prog 325 #[aM s] w λ e w'=>GV e w' w.heap.size s.data.toList/\EG w w':=by
 by_cases h:s.data.toList = []
 .have a:s=⟨#[]⟩:=vG (by first | (rw[h];done) | (rw[h];rfl));subst a;clear h b c;go_enter Tryz.func325,Tryz.ntmps325;go_wp2;refine bodyPost_ret (v:=.tuple #[.agg #[aE aL 0,aE aL 0,aM ⟨#[]⟩,aR none 0 0],a0 false]) (by simp[results,Tryz.results325,go_sem]) rfl ⟨GV.plain 0 0 ⟨#[]⟩ false (by decide) (λ h=>by first | rfl | cases h) (λ h=>by first | rfl | cases h),?_⟩
  first
   | exact (Below.refl _ _).alloc (a2 _) _
   | exact ((Below.refl _ _).alloc (a2 _) _).alloc (by simp) _
 by_cases h:s.data.toList = [45]
 .have a:s=⟨#[45]⟩:=vG (by first | (rw[h];done) | (rw[h];rfl));subst a;clear h b c;go_enter Tryz.func325,Tryz.ntmps325;go_wp2;refine bodyPost_ret (v:=.tuple #[.agg #[aE aL 0,aE aL 0,aM ⟨#[]⟩,aR none 0 0],a0 true]) (by simp[results,Tryz.results325,go_sem]) rfl ⟨GV.plain 0 0 ⟨#[]⟩ true (by decide) (λ h=>by first | rfl | cases h) (λ h=>by first | rfl | cases h),?_⟩
  first
   | exact (Below.refl _ _).alloc (a2 _) _
   | exact ((Below.refl _ _).alloc (a2 _) _).alloc (by simp) _
 by_cases h:s.data.toList=qL
 .have a:s=⟨#[116,114,117,101]⟩:=vG (by first | (rw[h];done) | (rw[h];rfl));subst a;clear h b c;go_enter Tryz.func325,Tryz.ntmps325;go_wp2;refine bodyPost_ret (v:=.tuple #[.agg #[aE aL 7,aE aL 1,aM ⟨#[]⟩,aR none 0 0],a0 true]) (by simp[results,Tryz.results325,go_sem]) rfl ⟨GV.plain 7 1 ⟨#[]⟩ true (by decide) (λ h=>by first | rfl | cases h) (λ h=>by first | rfl | cases h),?_⟩
  first
   | exact (Below.refl _ _).alloc (a2 _) _
   | exact ((Below.refl _ _).alloc (a2 _) _).alloc (by simp) _
 by_cases h:s.data.toList=ny
 .have a:s=⟨#[102,97,108,115,101]⟩:=vG (by first | (rw[h];done) | (rw[h];rfl));subst a;clear h b c;go_enter Tryz.func325,Tryz.ntmps325;go_wp2;refine bodyPost_ret (v:=.tuple #[.agg #[aE aL 7,aE aL 0,aM ⟨#[]⟩,aR none 0 0],a0 true]) (by simp[results,Tryz.results325,go_sem]) rfl ⟨GV.plain 7 0 ⟨#[]⟩ true (by decide) (λ h=>by first | rfl | cases h) (λ h=>by first | rfl | cases h),?_⟩
  first
   | exact (Below.refl _ _).alloc (a2 _) _
   | exact ((Below.refl _ _).alloc (a2 _) _).alloc (by simp) _
 rename_i f g d;exact Vk s w b c ⟨by assumption,by assumption,by assumption,by assumption⟩
structure RV (e:Ending) (w:World) (B:Nat) (s:List UInt8):Prop where
 ex:∃ (x:Val) (A:Option Addr) (c:Nat) (f:Int),e = a1 (.tuple #[.agg (BK x A c),aE aL f])/\Reads w w.heap.size 1 A x.l.length (bF aL x.l)/\(∀ ad,A=some ad->B<=ad.block)/\x.l.length<=4000000/\x.s.size<=4000000 /\
  (f=0->di x=0/\showT x.k x.n x.s.data.toList x.l=s)/\(f≠0->f=10/\x=⟨0,0,⟨#[]⟩,[]⟩/\∀ v:Val,di v=0->showT v.k v.n v.s.data.toList v.l≠s)
theorem abT {x v:Val} (h:(⟨x.k,x.n,x.s.data.toList,x.l⟩:Q)=⟨v.k,v.n,v.s.data.toList,v.l⟩):x=v:=by
 obtain⟨k,n,s,l⟩:=x;obtain⟨d,c,s',b⟩:=v;injection h with h1 h2 h3 h4;simp only at h1 h2 h3 h4;have a:s=s':=(vG h3).trans (vG (t:=s') rfl).symm;subst h1 h2 a h4;rfl
theorem abU {s:List UInt8} (h:bV s=none):∀ v:Val,di v=0->showT v.k v.n v.s.data.toList v.l≠s:=λ v a e=>by
 have:=uu (yL a).1;rw[e,h] at this;cases this
theorem Og {s:List UInt8} {x:Val} (h:bV s=some ⟨x.k,x.n,x.s.data.toList,x.l⟩) (a:di x≠0\/showT x.k x.n x.s.data.toList x.l≠s):∀ v:Val,di v=0->showT v.k v.n v.s.data.toList v.l≠s:=λ v b e=>by
 have:=uu (yL b).1;rw[e,h] at this;have:=abT (Option.some.inj this);subst this;rcases a with a | a
 .exact a b
 .exact a e
theorem FX (s:ByteArray) (w:World) (hs:s.size<=2000000) (o:Tab w) (hm:Mx w) :
  Calls Tryz.prog 320 #[aM s] w λ e w'=>RV e w' w.heap.size s.data.toList/\EG w w':=by
 have HT:=qh o;have HM:=qh hm;clear o hm;go_enter Tryz.func320,Tryz.ntmps320;go_wp2_with fail;obtain⟨W,D⟩:=aH ((w.alloc (.cells #[aE aL 0,aE aL 0,aM ⟨#[]⟩,aR none 0 0] 65 (0,0))));have a:EG w W:=by rw[D];exact ((Below.refl _ w).alloc (a2 _) _)
 have B0:ag W (w.heap.size) 65 #[aE aL 0,aE aL 0,aM ⟨#[]⟩,aR none 0 0]:=by
  rw[D];have:=ag.new w 65 #[aE aL 0,aE aL 0,aM ⟨#[]⟩,aR none 0 0];exact this
 have Z:W.heap.size=w.heap.size+1:=by rw[D];simp
 rw[<- D];clear D Z;refine (Vl s W hs (HM.o.below a)).mono ?_;rintro e q ⟨hg,u⟩;obtain⟨x,A,c,ok,rfl,F,hA,hl,V,q1,q2⟩:=hg.ex;have C:∀ ad,A=some ad->w.heap.size<ad.block:=λ ad h=>a6 B0.lt (hA ad h);have m:=qh (a4 F C);have HQ:=qh (a4 q1 q2);have B0:=B0.below u B0.lt;have a:=a.trans (u.mono a.size);clear hg u F hA q1 q2 C;go_upto_region 2 with (fail);obtain⟨W2,n⟩:=aH (q.alloc (.cells (BK x A c) 65 (0,0)));have l:EG q W2:=n▸(Below.refl _ q).alloc (a2 _) _;have B3:ag W2 q.heap.size 65 (BK x A c):=n▸ag.new q _ _;rw[<- n];have al:=B0.lt;have B0:=B0.below l B0.lt;have E:=m.o.1.below l;have H:q.heap.size<=W2.heap.size:=l.size;have a:=a.trans (l.mono a.size);have m:=qh (a4 (E.more H) m.o.2);clear n l E;obtain⟨S,M,T,K,Q,N,J,R⟩:=ag.z4 B0;obtain⟨O,I,L,P⟩:=ag.c4 B3;cases ok
 .have B:=qh (abU (HQ.o.2 rfl));go_wp2;obtain⟨G,j,y,p⟩:=dU B0 a (aE aL 0) (aE aL 0) (aM ⟨#[]⟩) (aR none 0 0);rw[<- j];clear j;obtain⟨r,b,d,g⟩:=ag.c4 y;refine bodyPost_ret (v:=.tuple #[.agg #[aE aL 0,aE aL 0,aM ⟨#[]⟩,aR none 0 0],aE aL 10]) (by simp[results,Tryz.results320,go_sem,r,b,d,g]) rfl ⟨⟨⟨⟨0,0,⟨#[]⟩,[]⟩,none,0,10,rfl,Reads.none_,(λ _ h=>by cases h),by simp,by decide,(λ h=>absurd h (by decide)),(λ _=>⟨rfl,rfl,B.o⟩)⟩⟩,p⟩
 have HG:=qh (HQ.o.1 rfl);go_wp2_with fail;refine (check_any x A c W2.heap.size W2 (by unfold maxLen;omega) (by unfold maxLen;omega) m.o.1 (a2 _)).mono ?_;rintro e w3 ⟨rfl,k⟩;obtain⟨f,U⟩:=af (di x);have X:=qh U;rw[U];have B0:=B0.below k B0.lt;have B3:=B3.below k B3.lt;have m:=qh (a4 ((m.o.1.below k).more k.size) m.o.2);have a:=a.trans (k.mono a.size);clear U k S M T K Q N J R O I L P;obtain⟨S,M,T,K,Q,N,J,R⟩:=ag.z4 B0;obtain⟨O,I,L,P⟩:=ag.c4 B3;by_cases h0:f=0;rotate_left
 .have ae:(f != 0)=true:=by simpa using h0
  have B:=qh (Og HG.o (.inl (by rw[X.o];exact h0)));clear h0;go_wp2;obtain⟨G,j,y,p⟩:=dU B0 a (aE aL 0) (aE aL 0) (aM ⟨#[]⟩) (aR none 0 0);rw[<- j];clear j;obtain⟨r,b,d,g⟩:=ag.c4 y;refine bodyPost_ret (v:=.tuple #[.agg #[aE aL 0,aE aL 0,aM ⟨#[]⟩,aR none 0 0],aE aL 10]) (by simp[results,Tryz.results320,go_sem,r,b,d,g]) rfl ⟨⟨⟨⟨0,0,⟨#[]⟩,[]⟩,none,0,10,rfl,Reads.none_,(λ _ h=>by cases h),by simp,by decide,(λ h=>absurd h (by decide)),(λ _=>⟨rfl,rfl,B.o⟩)⟩⟩,p⟩
 subst h0;obtain⟨hq,ac,ak⟩:=yL X.o;have aa:=qh hq;clear hq;go_wp2_with fail;refine (NR x.k x.n x.s x.l _ A c w3.heap.size w3 rfl aa.o (by omega) (by omega) m.o.1 (a2 _) (HT.o.below a) (HM.o.below a)).mono ?_;rintro e w4 ⟨⟨t,rfl,ht⟩,i⟩;have jD:=qh ht;have B0:=B0.below i B0.lt;have B3:=B3.below i B3.lt;have z:=qh (a4 ((m.o.1.below i).more i.size) m.o.2);have a:=a.trans (i.mono a.size);clear ht i S M T K Q N J R O I L P;obtain⟨S,M,T,K,Q,N,J,R⟩:=ag.z4 B0;obtain⟨O,I,L,P⟩:=ag.c4 B3;by_cases he:t=s
 .have b0:(t.toList == s.toList)=true:=kz he;have HE:=qh (show showT x.k x.n x.s.data.toList x.l=s.data.toList by rw[<- jD.o,he]);clear he;go_wp2;obtain⟨G,j,y,p⟩:=dU B0 a (aE aL x.k) (aE aL x.n) (aM x.s) (aR A x.l.length c);have Y:=qh (j▸(((z.o.1.apart z.o.2 _).apart z.o.2 _).apart z.o.2 _).apart z.o.2 _:Reads G w4.heap.size 1 A x.l.length (bF aL x.l));have ab:w4.heap.size<=G.heap.size:=by rw[j];simp[World.setCell]
  rw[<- j];clear j;obtain⟨r,b,d,g⟩:=ag.c4 y;refine bodyPost_ret (v:=.tuple #[.agg (BK x A c),aE aL 0]) (by simp[results,Tryz.results320,go_sem,r,b,d,g]) rfl ⟨⟨⟨x,A,c,0,rfl,Y.o.more ab,(λ ad h=>a7 (z.o.2 ad h)),hl,V,(λ _=>⟨X.o,HE.o⟩),(λ h=>absurd rfl h)⟩⟩,p⟩
 .have b0:(t.toList == s.toList)=false:=dR he;have B:=qh (Og HG.o (.inr (λ e=>he ((vG (jD.o.trans e)).trans (vG (t:=s) rfl).symm))));clear he;go_wp2;obtain⟨G,j,y,p⟩:=dU B0 a (aE aL 0) (aE aL 0) (aM ⟨#[]⟩) (aR none 0 0);rw[<- j];clear j;obtain⟨r,b,d,g⟩:=ag.c4 y;refine bodyPost_ret (v:=.tuple #[.agg #[aE aL 0,aE aL 0,aM ⟨#[]⟩,aR none 0 0],aE aL 10]) (by simp[results,Tryz.results320,go_sem,r,b,d,g]) rfl ⟨⟨⟨⟨0,0,⟨#[]⟩,[]⟩,none,0,10,rfl,Reads.none_,(λ _ h=>by cases h),by simp,by decide,(λ h=>absurd h (by decide)),(λ _=>⟨rfl,rfl,B.o⟩)⟩⟩,p⟩
end Go.Proofs.YtcnagconagpkcaaGreatDoor
namespace Go.Proofs.YtcnagconagpkcaaGreatDoor
open Go.RowKit
abbrev Kp (g:Nat) (w w':World):Prop:=w.grownBy w' (some g)
theorem zY (g:Nat) (w:World):Kp g w w:=⟨rfl,rfl,rfl,a2 _,λ _ _ _=>rfl⟩
theorem Kp.trans {g:Nat} {w b w2:World} (h:Kp g w b) (a:Kp g b w2):Kp g w w2:=
 ⟨a.os.trans h.os,a.tape.trans h.tape,a.output.trans h.output,Nat.le_trans h.size a.size,λ k c d=>(a.block k (a6 c h.size) d).trans (h.block k c d)⟩
theorem Kp.of {g:Nat} {w w':World} (h:EG w w'):Kp g w w':=⟨h.os,h.tape,h.output,h.size,λ k a _=>h.block k a⟩
theorem Kp.below {g B:Nat} {w w':World} (h:Kp g w w') (c:B<=g) (b:B<=w.heap.size):Below B w w':=
 (Below.refl B w).grown h b (λ k a=>by injection a with a;omega)
theorem Kp.set {g:Nat} {w w':World} (h:Kp g w w') (i:Nat) (u:Value):Kp g w (w'.setCell ⟨g,i,none⟩ u):=
 h.trans ⟨rfl,rfl,rfl,by simp[World.setCell],λ k _ a=>Below.heap_setCell w' ⟨g,i,none⟩ u k (λ e=>a (by rw[e]))⟩
theorem Kp.alloc {g:Nat} {w w':World} (h:Kp g w w') (o:Obj):Kp g w (w'.alloc o):=h.trans (Kp.of ((Below.refl _ _).alloc (a2 _) o))
theorem fA (g:Nat) (w:World):∃ W,W=w.alloc (.cells #[aE aL 0,aE aL 0,aM ⟨#[]⟩,aE aL 0,aE aL 0,aM ⟨#[]⟩,aR none 0 0,aR none 0 0] 67 (0,0))/\Kp g w W/\ZB W w.heap.size/\W.heap.size=w.heap.size+1/\w.heap.size<W.heap.size/\EG w W:=⟨_,rfl,(zY g w).alloc _,ag.new w _ _,by simp,by simp,(Below.refl _ w).alloc (a2 _) _⟩
theorem YJ (g:Nat) (w:World):∃ W,W=w.alloc (.cells #[aE aL 0,aE aL 0,aM ⟨#[]⟩,aE aL 0,aE aL 0,aM ⟨#[]⟩,aR none 0 0,aR none 0 0] 67 (0,0))/\Kp g w W/\Hid (ZB W w.heap.size)/\W.heap.size=w.heap.size+1/\w.heap.size<W.heap.size/\EG w W:=⟨_,rfl,(zY g w).alloc _,qh (ag.new w _ _),by simp,by simp,(Below.refl _ w).alloc (a2 _) _⟩
theorem Kp.cell {g:Nat} {w w':World} (h:Kp g w w') {a:Addr} (c:a.block≠g) {v:Value} (b:w.cell? a=some v):w'.cell? a=some v:=by
 rw[World.cell?_of_block (h.block a.block (block_lt_of_cell b) (λ e=>c (by injection e)))];exact b
structure lq (w:World) (p:Nat->Prop) (B size:Nat) (A:Option Addr) (n:Nat) (xs:List Value):Prop where
 r:Reads w B size A n xs
 l:0<n->∀ ad,A=some ad->p ad.block
def dI (p:Nat->Prop) (w w':World):Prop:=w.heap.size<=w'.heap.size/\∀ k,p k->k<w.heap.size->w'.heap[k]?=w.heap[k]?
theorem Kp.stay {g:Nat} {w w':World} (h:Kp g w w') {p:Nat->Prop} (a:∀ k,p k->k≠g):dI p w w':=⟨h.size,λ k c b=>h.block k b (λ e=>a k c (by injection e))⟩
theorem dI.of {p:Nat->Prop} {w w':World} (h:EG w w'):dI p w w':=⟨h.size,λ k _ a=>h.block k a⟩
theorem dI.grown {p:Nat->Prop} {w w':World} {a:Option Nat} (h:w.grownBy w' a) (b:∀ k,p k->some k≠a):dI p w w':=⟨h.size,λ k d c=>h.block k c (b k d)⟩
theorem lq.keep {w w':World} {p:Nat->Prop} {B size n:Nat} {A:Option Addr} {xs:List Value} (h:lq w p B size A n xs) (f:dI p w w'):lq w' p B size A n xs:=by
 refine⟨⟨h.r.1,λ c=>?_⟩,h.l⟩;obtain⟨ad,e,i,d⟩:=h.r.2 c;refine⟨ad,e,i,λ j u g=>?_⟩;have a:=d j u g;have b:=block_lt_of_cell a;rw[World.cell?_of_block (f.2 _ (by rw[iW];exact h.l c ad e) b)];exact a
theorem lq.up {w:World} {p:Nat->Prop} {B B' size n:Nat} {A:Option Addr} {xs:List Value} (h:lq w p B size A n xs) (a:B<=B'):lq w p B' size A n xs:=⟨h.r.more a,h.l⟩
inductive cO (w:World) (p:Nat->Prop) (B:Nat):Ex->List Value->Prop
 | mk {e:Ex} {A:Option Addr} {c:Nat} {A':Option Addr} {c':Nat} {cs:List Value} (hn:e.nm.size<=maxLen) (hs:e.v.s.size<=maxLen) (hl:e.v.l.length<=maxLen) (ha:e.ar.length<=maxLen)
   (hx:lq w p B 1 A e.v.l.length (bF aL e.v.l)) (hr:lq w p B 8 A' e.ar.length cs) (hi:∀ i (h:i<e.ar.length),cO w p B e.ar[i] ((cs.drop (i*8)).take 8)):cO w p B e (az e A c A' c')
theorem cO.at_ {w:World} {p:Nat->Prop} {B:Nat} {e:Ex} {cs:List Value} (h:cO w p B e cs):aQ w B e cs:=by
 induction h with
 | mk hn hs hl ha hx hr hi ih=>exact .mk hn hs hl ha hx.r hr.r ih
theorem cO.keep {w w':World} {p:Nat->Prop} {B:Nat} {e:Ex} {cs:List Value} (h:cO w p B e cs) (a:dI p w w'):cO w' p B e cs:=by
 induction h with
 | mk hn hs hl ha hx hr hi ih=>exact .mk hn hs hl ha (hx.keep a) (hr.keep a) ih
theorem cO.up {w:World} {p:Nat->Prop} {B B':Nat} {e:Ex} {cs:List Value} (h:cO w p B e cs) (a:B<=B'):cO w p B' e cs:=by
 induction h with
 | mk hn hs hl ha hx hr hi ih=>exact .mk hn hs hl ha (hx.up a) (hr.up a) ih
theorem cO.imp {w:World} {p q:Nat->Prop} {B:Nat} {e:Ex} {cs:List Value} (h:cO w p B e cs) (c:∀ k,p k->k<B->q k):cO w q B e cs:=by
 have a:∀ {size n:Nat} {A:Option Addr} {xs:List Value},lq w p B size A n xs->lq w q B size A n xs:=λ a=>⟨a.r,λ d ad e=>by
  obtain⟨f,b,g,-⟩:=a.r.2 d;rw[e] at b;injection b with b;subst b;exact c _ (a.l d ad e) g⟩
 induction h with
 | mk hn hs hl ha hx hr hi ih=>exact .mk hn hs hl ha (a hx) (a hr) ih
def aN (s:ByteArray) (i:Nat):Nat:=match dG s.data.toList i with
 | some t=>t.at_
 | none=>s.size
def aK (s:ByteArray) (i:Nat):List UInt8:=match dG s.data.toList i with
 | some t=>t.tx
 | none=>[]
def fV (s:ByteArray) (i:Nat):Bool:=match dG s.data.toList i with
 | some t=>t.touch
 | none=>false
def tb (l:List UInt8):ByteArray:=⟨l.toArray⟩
theorem jB (l:List UInt8):(tb l).data.toList=l:=by simp[tb]
theorem kS (l:List UInt8):(tb l).size=l.length:=by simp[tb,ByteArray.size]
theorem YK (s:ByteArray):tb s.data.toList=s:=by unfold tb;exact ByteArray.ext (by simp)
theorem J6 {a b:List UInt8} (h:tb a=tb b):a=b:=by rw[<- jB a,h,jB]
structure aP (w:World) (g:Nat) (s:ByteArray) (i:Nat):Prop where
 b:ag w g 346 #[aM s,aE aL (aN s i:Nat),aM (tb (aK s i)),a0 (fV s i)]
 i:i<=s.size
 s:s.size<=4000
theorem aT (s:ByteArray):s.data.toList.length=s.size:=by rw[Array.length_toList];rfl
theorem aeg (s:ByteArray) {i:Nat} (a:i<=s.size):i<=aN s i/\aN s i+(aK s i).length<=s.size:=by
 unfold aN aK;cases h:dG s.data.toList i with
 | none=>exact⟨a,by simp⟩
 | some t =>
  have:=fP h;rw[aT] at this;dsimp only;omega
def vM (w:World) (g:Nat) (s:ByteArray) (r:xQ) (e:Ending) (w':World):Prop:=match r with
 | .ok es l'=>∃ x i cs,es = [x]/\l'=wordsOf s.data.toList i/\e = a1 (.agg cs.toArray)/\cO w' (λ b=>w.heap.size<=b) w'.heap.size x cs/\aP w' g s i/\Kp g w w'
 | .err k=>e = .panicked [{ v:=.iface 342 (.agg #[aE aL (k:Nat)]),recovered:=false }]/\Kp g w w'
end Go.Proofs.YtcnagconagpkcaaGreatDoor
namespace Go.Proofs.YtcnagconagpkcaaGreatDoor
open Go.RowKit Vtx
theorem abV (s:ByteArray) (i:Nat) {word:List UInt8} (h:word≠[]):mW (wordsOf s.data.toList i) word=(decide (aK s i=word) && !fV s i):=by
 unfold aK fV;rw[gZ];cases dG s.data.toList i with
 | none=>show false=(decide (([]:List UInt8)=word) && !false);rw[decide_eq_false (λ e=>h e.symm)];rfl
 | some t=>simp[mW,Bool.and_comm]
theorem mJ (s:ByteArray) (i:Nat):qf s.data.toList.length (wordsOf s.data.toList i)=aN s i:=by
 unfold aN;rw[gZ];cases dG s.data.toList i with
 | none=>exact aT s
 | some t=>rfl
theorem ahs (a b:List UInt8):((tb a).toList == (tb b).toList)=decide (a=b):=by
 by_cases h:a=b
 .rw[decide_eq_true h];exact kz (by rw[h])
 .rw[decide_eq_false h];exact dR (λ e=>h (J6 e))
theorem wP (g:Nat) (s:ByteArray) (i:Nat) (w:World) (h:aP w g s i) (word:List UInt8) (o:word≠[]) :
  He 289 #[aZ (some ⟨g,0,none⟩),aM (tb word)] w (a0 (mW (wordsOf s.data.toList i) word)):=by
 have m:=h.b.cell 2;have l:=h.b.cell 3;have f:=qh (abV s i o);obtain⟨t,k⟩:=af (tb word);obtain⟨u,j⟩:=af (tb (aK s i));have n:(u.toList == t.toList)=decide (aK s i=word):=by rw[<- k,<- j];exact ahs _ _
 obtain⟨b,c⟩:=af (decide (aK s i=word));obtain⟨d,a⟩:=af (fV s i);rw[c] at n;rw[k];have f:=qh (f.o.trans (by rw[c,a]));rw[j,a] at m l;change w.cell? ⟨g,2,none⟩=some (aM u) at m;change w.cell? ⟨g,3,none⟩=some (a0 d) at l;clear c a k j h;cases b
 .go_enter Tryz.func289,Tryz.ntmps289;go_wp2_with fail;go_ret;exact⟨aj (by rw[f.o];rfl),rfl⟩
 .go_enter Tryz.func289,Tryz.ntmps289;go_wp2_with fail;go_ret;exact⟨aj (by rw[f.o];rfl),rfl⟩
abbrev Jc (k:Nat):Ending:=.panicked [{ v:=.iface 342 (.agg #[aE aL (k:Nat)]),recovered:=false }]
theorem gV (g:Nat) (s:ByteArray) (i:Nat) (w:World) (h:aP w g s i) :
  Calls Tryz.prog 256 #[aZ (some ⟨g,0,none⟩)] w λ e w'=>e=Jc (aN s i)/\w=w':=by
 have a:w.cell? ⟨g,1,none⟩=some (aE aL (aN s i:Nat)):=h.b.cell 1;clear h;go_enter Tryz.func256,Tryz.ntmps256;go_wp2;exact⟨rfl,rfl,rfl⟩
theorem Oh {s:ByteArray} {E J:Nat} (a:J=E+bJ bC (s.data.toList.drop E)) (h:J<s.size):aN s E=J/\aK s E=(s.data.toList.drop J).take (dA (s.data.toList.drop J)) /\
  fV s E=(decide (J=E) && decide (0<E) && gY (s.data.toList.getD (E - 1) 0) && gY (s.data.toList.getD E 0)):=by
 have e:dG s.data.toList E=some ⟨J,(s.data.toList.drop J).take (dA (s.data.toList.drop J)),(decide (J=E) && decide (0<E) && gY (s.data.toList.getD (E - 1) 0) && gY (s.data.toList.getD E 0))⟩:=by
  unfold dG;rw[<- a,if_pos (by rw[aT];exact h),show decide (bJ bC (s.data.toList.drop E)=0)=decide (J=E) from decide_eq_decide.2 (by omega)]
 unfold aN aK fV;rw[e];exact⟨rfl,rfl,rfl⟩
theorem Oi {s:ByteArray} {E J:Nat} (a:J=E+bJ bC (s.data.toList.drop E)) (h:¬ J<s.size):aN s E=s.size/\aK s E = []/\fV s E=false:=by
 have e:dG s.data.toList E=none:=by
  unfold dG;rw[<- a,if_neg (by rw[aT];exact h)]
 unfold aN aK fV;rw[e];exact⟨rfl,rfl,rfl⟩
theorem lN {s:ByteArray} {i:Nat} (h:i<s.size):s.data.toList.getD i 0=s[i]:=by
 rw[List.getD_eq_getElem?_getD,List.getElem?_eq_getElem (by rw[aT];exact h)];rfl
theorem QE (s:ByteArray) (J L:Nat):s.extract J (J+L)=tb ((s.data.toList.drop J).take L):=by
 unfold tb;refine ByteArray.ext (Array.toList_inj.1 ?_);rw[Lib.extract_data];simp
theorem abW {w:World} {g:Nat} {T:TypeId} {a b c d:Value} (h:ag w g T #[a,b,c,d]) (u:Value):ag (w.setCell ⟨g,3,none⟩ u) g T #[a,b,c,u]:=h.dS 3 u
theorem abX {w:World} {g:Nat} {T:TypeId} {a b c d:Value} (h:ag w g T #[a,b,c,d]) (u:Value):ag (w.setCell ⟨g,1,none⟩ u) g T #[a,u,c,d]:=h.dS 1 u
theorem Vo {w:World} {g:Nat} {T:TypeId} {a b c d:Value} (h:ag w g T #[a,b,c,d]) (u:Value):ag (w.setCell ⟨g,2,none⟩ u) g T #[a,b,u,d]:=h.dS 2 u
theorem Tm {g:Nat} {w w':World} (h:Kp g w w') (n:Nat):Kp g w (w'.drewN n):=h.trans (Kp.of ((Below.refl _ _).drewN n))
theorem next_any (g:Nat) (s:ByteArray) (i:Nat) (w:World) (h:aP w g s i) :
  Calls Tryz.prog 254 #[aZ (some ⟨g,0,none⟩)] w λ e w'=>e = a1 (.tuple #[])/\aP w' g s (aN s i+(aK s i).length)/\Kp g w w':=by
 have d:=aeg s h.i;have Y:=h.s;have t:=qh h.b;obtain⟨u,hu⟩:=af (tb (aK s i));have B:u.size=(aK s i).length:=by rw[<- hu,kS]
 rw[hu] at t;obtain⟨A,hA⟩:=af (aN s i);rw[hA] at t d ⊢;rw[<- B] at d ⊢;obtain⟨E,hE⟩:=af (A+u.size);rw[hE] at d ⊢;obtain⟨d0,y⟩:=af (fV s i);rw[y] at t;obtain⟨J,hJ⟩:=aH (E+bJ bC (s.data.toList.drop E));have al:J<=s.size:=by
  have h1:=qN bC (s.data.toList.drop E);rw[List.length_drop,aT] at h1;omega
 obtain⟨T,hT⟩:=af (fV s E);have Z:=qh hJ;have S:=qh hT;have j:w.cell? ⟨g,0,none⟩=some (aM s):=t.o.cell 0;have Q:w.cell? ⟨g,1,none⟩=some (aE aL (A:Nat)):=t.o.cell 1;have F:w.cell? ⟨g,2,none⟩=some (aM u):=t.o.cell 2;have P:((A:Nat):Int)+(u.size:Nat)=(E:Nat):=by omega
 have aa:IntKind.i64.wrap (((A:Nat):Int)+(u.size:Nat))=(E:Nat):=by rw[P];exact IntWalk.i64_in _ (by omega)
 clear hJ hT y hA hu B h hE;go_enter Tryz.func254,Tryz.ntmps254;go_upto_region 0 with (fail);go_quiet (fail);obtain⟨W,R⟩:=aH (w.drewN nq);have K:=qh (show Kp g w W by rw[R];exact Tm (zY g w) nq);have C:=qh (show ag W g 346 #[aM s,aE aL (A:Nat),aM u,a0 d0] by rw[R];exact t.o.drewN nq);rw[<- R];clear j Q F R P aa;have j:W.cell? ⟨g,0,none⟩=some (aM s):=C.o.cell 0;have z3:W.frozen? ⟨g,3,none⟩=false:=C.o.frozen 3;have c3:W.cell? ⟨g,3,none⟩=some (a0 d0):=C.o.cell 3;go_wp2_with fail
 go_loop [3] (λ x=>∃ n:Nat,E<=n/\n<=s.size/\x = aE aL n/\Hid (J=n+bJ bC (s.data.toList.drop n))) (λ x=>s.size - (intOf x).toNat)
 case atStart=>exact⟨E,a2 _,d.2,rfl,Z⟩
 case round =>
  obtain⟨n,am,hn,rfl,HR⟩:=hrel;by_cases hlt:n<s.size
  .have aX:=qh hlt;by_cases h32:s[n].toNat=32
   .have HG:=qh (mG hlt (show bC s[n]=true from decide_eq_true ((toNat_eq s[n] 32 (by decide)).2 h32)) HR.o);have b1:((s[n].toNat:Int) == 32)=true:=by simp;omega
    clear h32;go_wp2_with fail
    go_round
    case rel=>exact⟨n+1,by omega,aX.o,by go_num,HG⟩
    case measure =>
     have:=aX.o;simp[intOf];omega
   .have M:=nV hlt (show bC s[n]=false from decide_eq_false (λ e=>h32 ((toNat_eq s[n] 32 (by decide)).1 e))) HR.o;have b1:((s[n].toNat:Int) == 32)=false:=by simp;omega
    obtain⟨f,D,L⟩:=Oh Z.o (by rw[M];exact hlt);subst M;have Dv:=qh (S.o.symm.trans L);have G:=qh (a4 f D);clear h32 f D L;go_upto_region 4 with (fail);go_cut [3] (λ x wc=>x = aE aL (J:Nat)/\wc=W.setCell ⟨g,3,none⟩ (a0 T))
    case first =>
     by_cases hJE:J=E
     .subst hJE;have m:(((J:Nat):Int) == ((J:Nat):Int))=true:=by simp
      by_cases hE0:0<J
      .have ae:J - 1<s.size:=by omega
       obtain⟨b1,p⟩:=af (gY s[J - 1]);obtain⟨b2,o⟩:=af (gY (s[J]'hlt));have q:=qh (show T=(b1 && b2) by rw[Dv.o,lN ae,lN hlt,p,o,decide_eq_true hE0];simp);have l:=qh (show Calls Tryz.prog 57 #[.int .u8 (s[J - 1].toNat:Nat)] W λ e b=>e = a1 (a0 b1)/\W=b from by
        exact (ji s[J - 1] W).mono λ e b ⟨X,hw⟩=>⟨X.trans (congrArg (λ x=>a8 (a0 x)) p),hw⟩)
       have H:=qh (show Calls Tryz.prog 57 #[.int .u8 ((s[J]'hlt).toNat:Nat)] W λ e b=>e = a1 (a0 b2)/\W=b from by
        exact (ji (s[J]'hlt) W).mono λ e b ⟨X,hw⟩=>⟨X.trans (congrArg (λ x=>a8 (a0 x)) o),hw⟩)
       have I:((J:Nat):Int) - 1=((J - 1:Nat):Int):=by omega
       have aq:IntKind.i64.wrap (((J:Nat):Int) - 1)=((J - 1:Nat):Int):=by rw[I];exact IntWalk.i64_in _ (by omega)
       have ab:(0:Int)<((J:Nat):Int):=by omega
       clear p o I;cases b1
       .go_wp2_with (go_at_call 57;(with_reducible refine l.o.mono ?_);rintro e z ⟨rfl,rfl⟩)
        go_meet
        exact⟨rfl,by rw[q.o];rfl⟩
       .cases b2
        .go_wp2_with (first | (go_at_call 57;(with_reducible refine l.o.mono ?_);rintro e z ⟨rfl,rfl⟩) | (go_at_call 57;(with_reducible refine H.o.mono ?_);rintro e z ⟨rfl,rfl⟩))
         go_meet
         exact⟨rfl,by rw[q.o];rfl⟩
        .go_wp2_with (first | (go_at_call 57;(with_reducible refine l.o.mono ?_);rintro e z ⟨rfl,rfl⟩) | (go_at_call 57;(with_reducible refine H.o.mono ?_);rintro e z ⟨rfl,rfl⟩))
         go_meet
         exact⟨rfl,by rw[q.o];rfl⟩
      .have q:=qh (show T=false by rw[Dv.o,decide_eq_false hE0];simp);have ad:¬ (0:Int)<((J:Nat):Int):=by omega
       go_wp2_with fail
       go_meet
       exact⟨rfl,by rw[q.o]⟩
     .have q:=qh (show T=false by rw[Dv.o,decide_eq_false hJE];simp);have m:(((J:Nat):Int) == ((E:Nat):Int))=false:=by simp;omega
      have ac:(J == E)=false:=by simp;omega
      go_wp2_with fail
      go_meet
      exact⟨rfl,by rw[q.o]⟩
    case rest =>
    obtain⟨rfl,rfl⟩:=hcut;have v:=abW C.o (a0 T);obtain⟨c,k⟩:=aH (W.setCell ⟨g,3,none⟩ (a0 T));have oJ:=qh (show Kp g w c by rw[k];exact K.o.set 3 _);rw[<- k] at v;have a:=qh v;rw[<- k];clear v k j z3 c3;have j:c.cell? ⟨g,0,none⟩=some (aM s):=a.o.cell 0;have Q:c.cell? ⟨g,1,none⟩=some (aE aL (A:Nat)):=a.o.cell 1;have F:c.cell? ⟨g,2,none⟩=some (aM u):=a.o.cell 2;have z1:c.frozen? ⟨g,1,none⟩=false:=a.o.frozen 1;have z2:c.frozen? ⟨g,2,none⟩=false:=a.o.frozen 2;have hL:=yI (s.data.toList.drop J);rw[List.length_drop,aT] at hL;obtain⟨N,hN⟩:=af (J+dA (s.data.toList.drop J));have HN:=qh hN;have ao:(0:Int)<=((J:Nat):Int):=by omega
    have an:((J:Nat):Int)<=((N:Nat):Int):=by omega
    have av:((N:Nat):Int)<=((s.size:Nat):Int):=by omega
    have ak:J<=N:=by omega
    have ap:N<=s.size:=by omega
    have Vp:((J:Nat):Int)<((s.size:Nat):Int):=by omega
    have FI:=qh (λ (w':World) (hc:w'.cell? ⟨g,0,none⟩=some (aM s))=>(show Calls Tryz.prog 269 #[aZ (some ⟨g,0,none⟩),aE aL (J:Nat)] w' λ e b=>e = a1 (aE aL (N:Nat))/\w'=b from by
     have h:=Du g s J w' hc hlt Y
     rwa [hN] at h))
    clear hL hN;go_upto_region 7 with (fail);obtain⟨O,V⟩:=aH ((c.setCell ⟨g,1,none⟩ (aE aL (J:Nat))).setCell ⟨g,2,none⟩ (aM ⟨#[]⟩));have U:=qh (show ag O g 346 #[aM s,aE aL (J:Nat),aM ⟨#[]⟩,a0 T] by rw[V];exact Vo (abX a.o _) _);have Ib:=qh (show Kp g w O by rw[V];exact (oJ.o.set 1 _).set 2 _);rw[<- V];clear V j Q F z1 z2;have j:O.cell? ⟨g,0,none⟩=some (aM s):=U.o.cell 0;have F:O.cell? ⟨g,2,none⟩=some (aM ⟨#[]⟩):=U.o.cell 2;have z2:O.frozen? ⟨g,2,none⟩=false:=U.o.frozen 2;go_region_with (go_at_call 269;(with_reducible refine (FI.o _ (by simpa using j)).mono ?_);rintro e z ⟨rfl,rfl⟩)
    all_goals
     go_wp2_with fail;go_end0;refine⟨rfl,⟨?_,d.2,Y⟩,(Ib.o.set 2 _).trans (Kp.of (Below.refl _ _).drew)⟩;rw[G.o.1,G.o.2,S.o,<- QE,HN.o];exact (Vo U.o _).drew
  .have M:=qw hlt HR.o;obtain⟨f,D,L⟩:=Oi Z.o (by rw[M];exact hlt);have r:n=s.size:=by omega
   subst M;have WL:=qh (S.o.symm.trans L);have G:=qh (a4 (f.trans r.symm) D);have ar:=qh r;have Vp:¬ ((J:Nat):Int)<((s.size:Nat):Int):=by omega
   clear f D L r;go_upto_region 4 with (fail);go_cut [3] (λ x wc=>x = aE aL (J:Nat)/\wc=W.setCell ⟨g,3,none⟩ (a0 T))
   case first =>
    by_cases hJE:J=E
    .subst hJE;have m:(((J:Nat):Int) == ((J:Nat):Int))=true:=by simp
     by_cases hE0:0<J
     .have ab:(0:Int)<((J:Nat):Int):=by omega
      go_wp2_with fail
      go_meet
      exact⟨rfl,by rw[WL.o]⟩
     .have ad:¬ (0:Int)<((J:Nat):Int):=by omega
      go_wp2_with fail
      go_meet
      exact⟨rfl,by rw[WL.o]⟩
    .have m:(((J:Nat):Int) == ((E:Nat):Int))=false:=by simp;omega
     have ac:(J == E)=false:=by simp;omega
     go_wp2_with fail
     go_meet
     exact⟨rfl,by rw[WL.o]⟩
   case rest =>
   obtain⟨rfl,rfl⟩:=hcut;have v:=abW C.o (a0 T);obtain⟨c,k⟩:=aH (W.setCell ⟨g,3,none⟩ (a0 T));have oJ:=qh (show Kp g w c by rw[k];exact K.o.set 3 _);rw[<- k] at v;have a:=qh v;rw[<- k];clear v k j z3 c3;have j:c.cell? ⟨g,0,none⟩=some (aM s):=a.o.cell 0;have Q:c.cell? ⟨g,1,none⟩=some (aE aL (A:Nat)):=a.o.cell 1;have F:c.cell? ⟨g,2,none⟩=some (aM u):=a.o.cell 2;have z1:c.frozen? ⟨g,1,none⟩=false:=a.o.frozen 1;have z2:c.frozen? ⟨g,2,none⟩=false:=a.o.frozen 2;go_wp2_with fail;go_end0;refine⟨rfl,⟨?_,d.2,Y⟩,(oJ.o.set 1 _).set 2 _⟩;rw[G.o.1,G.o.2,S.o];exact Vo (abX a.o _) _
theorem take_any (g:Nat) (s:ByteArray) (i:Nat) (w:World) (h:aP w g s i) (word:List UInt8) (j:word≠[]) :
  Calls Tryz.prog 323 #[aZ (some ⟨g,0,none⟩),aM (tb word)] w λ e w'=>if mW (wordsOf s.data.toList i) word=true then e = a1 (.tuple #[])/\aP w' g s (aN s i+(aK s i).length)/\Kp g w w' else e=Jc (aN s i)/\w=w':=by
 obtain⟨b,d⟩:=af (mW (wordsOf s.data.toList i) word);have c:=qh (wP g s i w h word j);have f:=qh (next_any g s i w h);have HW:=qh (gV g s i w h);rw[d] at c ⊢;clear d;cases b
 .go_enter Tryz.func323,Tryz.ntmps323;go_wp2_with (first | (go_at_call 289;(with_reducible refine c.o.mono ?_);rintro e a ⟨rfl,rfl⟩) | (go_at_call 256;(with_reducible refine HW.o.mono ?_);rintro e a ⟨rfl,rfl⟩));exact⟨rfl,rfl,rfl⟩
 .go_enter Tryz.func323,Tryz.ntmps323;go_wp2_with (first | (go_at_call 289;(with_reducible refine c.o.mono ?_);rintro e a ⟨rfl,rfl⟩) | (go_at_call 254;(with_reducible refine f.o.mono ?_);rintro e a ⟨rfl,k,l⟩));go_end0;exact⟨rfl,k,l⟩
theorem iy (o:Int) (A:Option Addr) (n:Nat) (c:Nat) (w:World) :
  CS 290 #[aE aL o,aR A n c] w (.agg #[aE aL 4,aE aL o,aM ⟨#[]⟩,aE aL 0,aE aL 0,aM ⟨#[]⟩,aR none 0 0,aR A n c]):=by
 go_enter Tryz.func290,Tryz.ntmps290;go_wp2;exact bodyPost_ret (v:=.agg #[aE aL 4,aE aL o,aM ⟨#[]⟩,aE aL 0,aE aL 0,aM ⟨#[]⟩,aR none 0 0,aR A n c]) (by simp[results,Tryz.results290,go_sem]) rfl ⟨rfl,(Below.refl _ w).alloc (a2 _) _⟩
theorem uC (k m:Int) (s:ByteArray) (A:Option Addr) (n c:Nat) (w:World) :
  CS 321 #[.agg #[aE aL k,aE aL m,aM s,aR A n c]] w (.agg #[aE aL 1,aE aL 0,aM ⟨#[]⟩,aE aL k,aE aL m,aM s,aR A n c,aR none 0 0]):=by
 go_enter Tryz.func321,Tryz.ntmps321;go_wp2;exact bodyPost_ret (v:=.agg #[aE aL 1,aE aL 0,aM ⟨#[]⟩,aE aL k,aE aL m,aM s,aR A n c,aR none 0 0]) (by simp[results,Tryz.results321,go_sem]) rfl ⟨rfl,((Below.refl _ w).alloc (a2 _) _).alloc (by simp) _⟩
def TM (w:World) (g:Nat):Prop:=∃ w0:World,Tab w0/\Mx w0/\w0.heap.size<=g/\EG w0 w
theorem TM.kp {w w':World} {g:Nat} (h:TM w g) (d:Kp g w w'):TM w' g:=by
 obtain⟨w0,c,e,a,b⟩:=h;exact⟨w0,c,e,a,b.trans (d.below a b.size)⟩
theorem TM.tab {w:World} {g:Nat} (h:TM w g):Tab w/\Mx w:=by
 obtain⟨w0,b,c,d,a⟩:=h;exact⟨b.below a,c.below a⟩
def fE (F:FuncId) (nt:NT) (s:ByteArray) (L:List Tok):Prop:=∀ g i w,aP w g s i->TM w g->wordsOf s.data.toList i=L->Calls Tryz.prog F #[aZ (some ⟨g,0,none⟩)] w λ e w'=>vM w g s (Pz s.data.toList.length nt [] L) e w'
theorem aP.kp {w w':World} {g i:Nat} {s:ByteArray} (h:aP w g s i) (a:w'.heap[g]?=w.heap[g]?):aP w' g s i:=⟨by (try unfold ZB);unfold ag;rw[a];exact h.b,h.i,h.s⟩
theorem aP.alloc {w:World} {g i:Nat} {s:ByteArray} (h:aP w g s i) (o:Obj):aP (w.alloc o) g s i:=⟨h.b.alloc o,h.i,h.s⟩
theorem aP.below {w w':World} {g i:Nat} {s:ByteArray} (h:aP w g s i) (a:EG w w'):aP w' g s i:=⟨h.b.below a h.b.lt,h.i,h.s⟩
theorem QG {w w':World} {B size n g:Nat} {e:TypeId} {v:Value} {xs:List Value} (h:w.ownsRow B e size v n xs) (j:Kp g w w') (l:g<B):w'.ownsRow B e size v n xs:=by
 refine⟨h.1,h.2.imp id ?_⟩;rintro ⟨a,c,b,f,i,k,e3⟩;have d:a<w.heap.size:=(h.lt a (by rw[f];rfl)).2;exact⟨a,c,b,f,i,by rw[j.block a d (λ e=>by injection e with e;omega)];exact k,e3⟩
theorem Ef {w:World} {b B size:Nat} {e:TypeId} {cs:List Value} (h:ag w b e cs.toArray) (c:B<=b) (a:cs.length=size):w.ownsRow B e size (aR (some ⟨b,0,none⟩) 1 1) 1 cs:=
 ⟨by rw[a,a9],.inr ⟨b,1,cs.toArray,rfl,c,h,a2 _,by unfold maxLen;omega,by simp[a],by rw[a9,<- a];simp⟩⟩
theorem zZ {w:World} {p:Nat->Prop} {B:Nat} {e:Ex} {cs:List Value} (h:cO w p B e cs):cs.length=8:=by
 cases h;rfl
theorem Tn:∀ (css:List (List Value)) (_:∀ c∈css,c.length=8) (i:Nat) (h:i<css.length),(css.flatten.drop (i*8)).take 8=css[i]
 | c :: r,hl,0,_=>by
  have:=hl c (List.mem_cons_self ..);simp[<- this]
 | c :: r,hl,i+1,h=>by
  have b:=hl c (List.mem_cons_self ..);rw[List.flatten_cons,show (i+1)*8=c.length+i*8 by omega,<- List.drop_drop,List.drop_left];exact Tn r (λ x a=>hl x (List.mem_cons_of_mem _ a)) i (by simpa using h)
structure jc (w:World) (p:Nat->Prop) (es:List Ex) (css:List (List Value)):Prop where
 len:es.length=css.length
 ex:∀ j (h:j<es.length) (h':j<css.length),cO w p w.heap.size es[j] css[j]
theorem jc.keep {w w':World} {p:Nat->Prop} {c:List Ex} {css:List (List Value)} (h:jc w p c css) (d:dI p w w'):jc w' p c css:=⟨h.len,λ j a b=>((h.ex j a b).keep d).up d.1⟩
theorem jc.imp {w:World} {p q:Nat->Prop} {d:List Ex} {css:List (List Value)} (h:jc w p d css) (c:∀ k,p k->k<w.heap.size->q k):jc w q d css:=⟨h.len,λ j a b=>(h.ex j a b).imp c⟩
theorem jc.cells {w:World} {p:Nat->Prop} {d:List Ex} {css:List (List Value)} (h:jc w p d css):∀ c∈css,c.length=8:=λ c b=>by
 obtain⟨j,a,rfl⟩:=List.mem_iff_getElem.1 b;exact zZ (h.ex j (by rw[h.len];exact a) a)
theorem jc.snoc {w:World} {p:Nat->Prop} {c:List Ex} {css:List (List Value)} (h:jc w p c css) {e:Ex} {cs:List Value} (d:cO w p w.heap.size e cs):jc w p (c ++ [e]) (css ++ [cs]):=by
 refine⟨by simp[h.len],λ j a b=>?_⟩;by_cases hj:j<c.length
 .rw[List.getElem_append_left hj,List.getElem_append_left (by rw[<- h.len];exact hj)];exact h.ex j hj _
 .have f:j=c.length:=by simp at a;omega
  subst f;rw[List.getElem_append_right (a2 _),List.getElem_append_right (by rw[h.len];exact a2 _)];simpa [h.len] using d
theorem jc.one {w:World} {p:Nat->Prop} {e:Ex} {cs:List Value} (c:cO w p w.heap.size e cs):jc w p [e] [cs]:=by
 have b:jc w p [] []:=⟨rfl,λ j a=>by simp at a⟩;exact b.snoc c
theorem abZ {w:World} {L B:Nat} {a:List Ex} {css:List (List Value)} {A:Option Addr} {c:Nat} (o:Int) (h:jc w (λ b=>L<=b) a css) (s:L<=B) (j:w.ownsRow B 67 8 (aR A a.length c) a.length css.flatten) (q:a.length<=maxLen) :
  cO w (λ b=>L<=b) w.heap.size (kE o a) [aE aL 4,aE aL o,aM ⟨#[]⟩,aE aL 0,aE aL 0,aM ⟨#[]⟩,aR none 0 0,aR A a.length c]:=by
 have p:∀ ad,A=some ad->L<=ad.block:=λ ad e=>by
  subst e;rcases j.2 with ⟨k,-⟩ | ⟨m,n,l,f,r,-⟩
  .cases k
  .injection f with f _ _;injection f with f;subst f;show L<=m;omega
 refine cO.mk (e:=kE o a) (A:=none) (c:=0) (A':=A) (c':=c) (cs:=css.flatten) (show 0<=maxLen from a5 _) (show 0<=maxLen from a5 _) (show 0<=maxLen from a5 _) q ⟨Reads.none_,λ _ ad e=>by cases e⟩ ⟨Reads.fM j,λ _=>p⟩ (λ i g=>?_);have d:i<css.length:=by rw[<- h.len];exact g
 rw[Tn css h.cells i d];exact h.ex i g d
theorem YO:(Tryz.prog.info? 67).map (λ i=>(i.zero,i.size,i.bytes))=some (some (.agg #[.int .i64 0,.int .i64 0,.string ByteArray.empty,.int .i64 0,.int .i64 0,.string ByteArray.empty,.slice none 0 0,.slice none 0 0]),8,112):=by kernel_rfl
end Go.Proofs.YtcnagconagpkcaaGreatDoor
