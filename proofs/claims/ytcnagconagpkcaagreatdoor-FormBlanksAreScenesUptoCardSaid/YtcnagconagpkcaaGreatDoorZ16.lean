/- Lemmas. -/
import Derived.Test.YtcnagconagpkcaaGreatDoorZ15
set_option maxHeartbeats 4000000
set_option maxRecDepth 100000
open Go.Value renaming int->aL, string->aR, slice->a0, pointer->a1, bool->a2
open Go.IntKind renaming i64->aM
open Go.Ending renaming returned->a3, returned->ba
open Nat renaming le_refl->a4, zero_le->a7, lt_of_lt_of_le->a8, le_of_lt->a9, one_mul->bb
open Go.ByteArray renaming toList_eq->a5
open And renaming intro->a6
namespace Go.Proofs.YtcnagconagpkcaaGreatDoor
open Go.RowKit Dig Vtx
structure GV (e:Ending) (w:World) (B:Nat) (s:List UInt8):Prop where
 ex:∃ (x:Val) (A:Option Addr) (c:Nat) (ok:Bool),e = a3 (.tuple #[.agg (BO x A c),a2 ok])/\Reads w w.heap.size 1 A x.l.length (bI aM x.l)/\(∀ ad,A=some ad->B<=ad.block)/\x.l.length<=4000000/\x.s.size<=4000000 /\
  (ok=true->dC s=some ⟨x.k,x.n,x.s.data.toList,x.l⟩)/\(ok=false->dC s=none)
theorem GV.plain {w:World} {B:Nat} {s:List UInt8} (k n:Int) (t:ByteArray) (a:Bool) (d:t.size<=4000000) (b:a=true->dC s=some ⟨k,n,t.data.toList,[]⟩) (c:a=false->dC s=none) :
  GV (a3 (.tuple #[.agg #[aL aM k,aL aM n,aR t,a0 none 0 0],a2 a])) w B s:=
 ⟨⟨⟨k,n,t,[]⟩,none,0,a,rfl,Reads.none_,(λ _ h=>by cases h),by simp,d,b,c⟩⟩
theorem Reads.apart {w:World} {B size n g i:Nat} {A:Option Addr} {xs:List Value} (h:Reads w B size A n xs) (c:∀ ad,A=some ad->g<ad.block) (u:Value):Reads (w.setCell ⟨g,i,none⟩ u) B size A n xs:=by
 refine⟨h.1,λ f=>?_⟩;obtain⟨ad,e,d,k⟩:=h.2 f;refine⟨ad,e,d,λ j x l=>?_⟩;rw[World.cell?_setCell_other w ⟨g,i,none⟩ (ad.add j) u (λ b=>by
  have m:=c ad e;have a:=congrArg Addr.block b;rw[iZ] at a;exact absurd a (by show g≠ad.block;omega))]
 exact k j x l
theorem JS (k:Int) (o:Option Int):∃ K N a,LH k o = .tuple #[.agg #[aL aM K,aL aM N,aR ⟨#[]⟩,a0 none 0 0],a2 a]/\(a=true->K=k/\o=some N)/\(a=false->o=none):=by
 cases o with
 | none=>exact⟨0,0,false,rfl,(λ h=>by cases h),λ _=>rfl⟩
 | some n=>exact⟨k,n,true,rfl,(λ _=>⟨rfl,rfl⟩),λ h=>by cases h⟩
theorem TQ {s:ByteArray} (h:0<s.size):s.data.toList.head?=some s[0]:=by
 rw[List.head?_eq_getElem?,List.getElem?_eq_getElem (show 0<s.data.toList.length from h)];rfl
theorem head_ne {s:ByteArray} (h:0<s.size) {c:UInt8} (a:((s[0].toNat:Nat):Int)≠(c.toNat:Nat)):s.data.toList.head?≠some c:=by
 rw[TQ h];intro e;injection e with e;rw[e] at a;exact a rfl
theorem head_eq {s:ByteArray} (h:0<s.size) {c:UInt8} (a:((s[0].toNat:Nat):Int)=(c.toNat:Nat)):s.data.toList.head?=some c:=by
 rw[TQ h];congr 1;exact UInt8.toNat_inj.1 (by omega)
structure Odd (s:List UInt8):Prop where
 a:s≠[]
 b:s≠[45]
 c:s≠qX
 d:s≠nH
theorem Y5 {s:List UInt8} (h:Odd s) (a:s.head?=some 39):dC s=some ⟨3,0,Lib.replaceAll (Lib.trimSuffix s.tail [39]) [39,39] [39],[]⟩:=by
 unfold dC;rw[if_neg h.a,if_neg h.b,if_neg h.c,if_neg h.d,if_pos a]
theorem Y6 {s:List UInt8} (h:Odd s) (a:s.head?=some 35):dC s=if (dK s.tail).2 then some ⟨4,(dK s.tail).1,[],[]⟩ else none:=by
 unfold dC;rw[if_neg h.a,if_neg h.b,if_neg h.c,if_neg h.d,if_neg (by rw[a];simp),if_pos a]
theorem VE {s:List UInt8} (h:Odd s) (a:s.head?=some 123):dC s=(jS s).map (⟨5,0,[],·⟩):=by
 unfold dC;rw[if_neg h.a,if_neg h.b,if_neg h.c,if_neg h.d,if_neg (by rw[a];simp),if_neg (by rw[a];simp),if_pos a]
theorem Y7 {s:List UInt8} (h:Odd s) (a:s.head?=some 64):dC s=(jw s.tail).map (⟨6,·,[],[]⟩):=by
 unfold dC;rw[if_neg h.a,if_neg h.b,if_neg h.c,if_neg h.d,if_neg (by rw[a];simp),if_neg (by rw[a];simp),if_neg (by rw[a];simp),if_pos a]
theorem VF {s:List UInt8} (h:Odd s) (a:s.head?≠some 39) (d:s.head?≠some 35) (e:s.head?≠some 123) (g:s.head?≠some 64) (b:s≠w1T) (c:s≠w2T) (f:s≠w3T):dC s=(jR s).map (⟨2,·,[],[]⟩):=by
 unfold dC;rw[if_neg h.a,if_neg h.b,if_neg h.c,if_neg h.d,if_neg a,if_neg d,if_neg e,if_neg g,if_neg b,if_neg c,if_neg f]
theorem acm (s:List UInt8):(Lib.replaceAll s [39,39] [39]).length<=s.length:=by
 rw[lN (by simp),Ob]
 induction s using UR.induct with
 | case1 a b r h ih=>rw[UR,if_pos h];simp only[List.length_cons];omega
 | case2 a b r h ih=>rw[UR,if_neg h];simp only[List.length_cons] at *;omega
 | case3 l h =>
  rcases l with _ | ⟨a,_ | ⟨b,r⟩⟩
  .exact a4 _
  .exact a4 _
  .exact absurd rfl (h a b r)
theorem VG (s:ByteArray) (w:World) (hs:s.size<=2000000) (hm:Mx w) (H:Odd s.data.toList) :
  Calls Tryz.prog 325 #[aR s] w λ e w'=>GV e w' w.heap.size s.data.toList/\IY w w':=by
 have HM:=qh hm;have C:=qh H;have Z:s.data.toList.length=s.size:=rfl;have e1:s.toList.isEmpty=false:=by rw[a5];simpa using H.a
 have e2:(s.toList == [45])=false:=by rw[a5,beq_eq_false_iff_ne];exact H.b
 have e3:(s.toList == [116,114,117,101])=false:=by rw[a5,beq_eq_false_iff_ne];exact H.c
 have e4:(s.toList == [102,97,108,115,101])=false:=by rw[a5,beq_eq_false_iff_ne];exact H.d
 have E:0<s.size:=by
  rcases Nat.eq_zero_or_pos s.size with h | h
  .exact absurd (List.eq_nil_of_length_eq_zero (by rw[Z];exact h)) H.a
  .exact h
 have HX:=qh (show (s.extract 1 s.size).data.toList=s.data.toList.tail by
  rw[Lib.extract_data,List.take_of_length_le (by simp),List.drop_one])
 have aq:(s.extract 1 s.size).size<=2000000:=by rw[ByteArray.size_extract];omega
 have d:IY w (w.alloc (.cells #[aL aM 0,aL aM 0,aR ⟨#[]⟩,a0 none 0 0] 65 (0,0))):=(Below.refl _ _).alloc (a4 _) _;have b:=ah.new w 65 #[aL aM 0,aL aM 0,aR ⟨#[]⟩,a0 none 0 0];obtain⟨W,hW⟩:=aC (w.alloc (.cells #[aL aM 0,aL aM 0,aR ⟨#[]⟩,a0 none 0 0] 65 (0,0)));have HW:=qh hW;rw[<- hW] at d b;clear hm H Z hW;by_cases qI:((s[0].toNat:Nat):Int)=39
 .have aD:(((s[0].toNat:Nat):Int) == 39)=true:=by simpa using qI
  have p:=qh (Y5 C.o (head_eq (c:=39) E qI));clear qI;go_enter Tryz.func325,Tryz.ntmps325;go_wp2_with fail;rw[<- HW.o];refine (TN (s.extract 1 s.size) ⟨#[39]⟩ W aq).mono ?_;rintro e G ⟨⟨L,rfl,R⟩,rfl⟩;have ay:L.size<=2000000:=by
   have:=Lib.trimSuffix_le (s.extract 1 s.size).data.toList [39];rw[oU R];have h2:(s.extract 1 s.size).data.toList.length=(s.extract 1 s.size).size:=rfl;show (Lib.trimSuffix (s.extract 1 s.size).data.toList [39]).length<=_;omega
  have ao:=qh (show L.data.toList=Lib.trimSuffix s.data.toList.tail [39] by rw[R,HX.o]);clear R;go_wp2_with fail;refine (xB L ⟨#[39,39]⟩ ⟨#[39]⟩ W ay (by decide) (by decide) (HM.o.below d)).mono ?_;rintro e w2 ⟨⟨t2,rfl,X⟩,P⟩;have aw:t2.size<=4000000:=by
   rw[oU X];have:=acm L.data.toList;have h2:L.data.toList.length=L.size:=rfl;show (Lib.replaceAll L.data.toList [39,39] [39]).length<=_;omega
  have HE:=qh (show dC s.data.toList=some ⟨3,0,t2.data.toList,[]⟩ by rw[p.o,X,<- ao.o]);have B0:=b.below P b.lt;have x:=d.trans (P.mono d.size);clear X P;obtain⟨V,J,Q,I,M,U,T,O⟩:=ah.z4 B0;go_wp2;obtain⟨D,n,u,t⟩:=dW B0 x (aL aM 3) (aL aM 0) (aR t2) (a0 none 0 0);rw[<- n];clear n;obtain⟨r,f,g,j⟩:=ah.c4 u;refine bodyPost_ret (v:=.tuple #[.agg #[aL aM 3,aL aM 0,aR t2,a0 none 0 0],a2 true]) (by simp[results,Tryz.results325,go_sem,r,f,g,j]) rfl ⟨GV.plain 3 0 t2 true aw (λ _=>HE.o) (λ h=>by cases h),t⟩
 have aD:(((s[0].toNat:Nat):Int) == 39)=false:=by simpa using qI
 have am:=qh (head_ne (c:=39) E qI);clear qI;by_cases h35:((s[0].toNat:Nat):Int)=35
 .have ar:(((s[0].toNat:Nat):Int) == 35)=true:=by simpa using h35
  have p:=qh (Y6 C.o (head_eq (c:=35) E h35));obtain⟨a,q,m,ab,ha⟩:=kN (s.extract 1 s.size).data.toList;have an:=qh ab;have HE:=qh (show dC s.data.toList=if q then some ⟨4,(a:Nat),[],[]⟩ else none by rw[p.o,<- HX.o,m]);clear h35 m ab;go_enter Tryz.func325,Tryz.ntmps325;go_wp2_with fail;rw[<- HW.o];refine (oC (s.extract 1 s.size) W).mono ?_;rw[an.o];rintro e G ⟨rfl,rfl⟩;obtain⟨V,J,Q,I,M,U,T,O⟩:=ah.z4 b;go_wp2;obtain⟨D,n,u,t⟩:=dW b d (aL aM 4) (aL aM (a:Nat)) (aR ⟨#[]⟩) (a0 none 0 0);rw[<- n];clear n;obtain⟨r,f,g,j⟩:=ah.c4 u;refine bodyPost_ret (v:=.tuple #[.agg #[aL aM 4,aL aM (a:Nat),aR ⟨#[]⟩,a0 none 0 0],a2 q]) (by simp[results,Tryz.results325,go_sem,r,f,g,j]) rfl ⟨GV.plain 4 a ⟨#[]⟩ q (by decide) (λ h=>by rw[HE.o,h];rfl) (λ h=>by rw[HE.o,h];rfl),t⟩
 have ar:(((s[0].toNat:Nat):Int) == 35)=false:=by simpa using h35
 have al:=qh (head_ne (c:=35) E h35);clear h35;by_cases iG:((s[0].toNat:Nat):Int)=123
 .have aE:(((s[0].toNat:Nat):Int) == 123)=true:=by simpa using iG
  have p:=qh (VE C.o (head_eq (c:=123) E iG));clear iG;go_enter Tryz.func325,Tryz.ntmps325;go_wp2_with fail;rw[<- HW.o];refine (O3 s W hs (HM.o.below d)).mono ?_;rintro e G ⟨hr,o⟩;obtain⟨A,c,l,q,rfl,ak,hA,hl,q1,q2⟩:=hr.ex;have aa:∀ ad,A=some ad->w.heap.size<ad.block:=λ ad h=>a8 b.lt (hA ad h);have Y:=qh (a6 ak aa);have F:=qh (a6 q1 q2);have B0:=b.below o b.lt;have x:=d.trans (o.mono d.size);clear hr o ak hA q1 q2 aa;obtain⟨V,J,Q,I,M,U,T,O⟩:=ah.z4 B0;go_wp2;obtain⟨D,n,u,t⟩:=dW B0 x (aL aM 5) (aL aM 0) (aR ⟨#[]⟩) (a0 A l.length c);have ax:=qh (n▸(((Y.o.1.apart Y.o.2 _).apart Y.o.2 _).apart Y.o.2 _).apart Y.o.2 _:Reads D G.heap.size 1 A l.length (bI aM l));have av:G.heap.size<=D.heap.size:=by rw[n];simp[World.setCell]
  rw[<- n];clear n;obtain⟨r,f,g,j⟩:=ah.c4 u;refine bodyPost_ret (v:=.tuple #[.agg #[aL aM 5,aL aM 0,aR ⟨#[]⟩,a0 A l.length c],a2 q]) (by simp[results,Tryz.results325,go_sem,r,f,g,j]) rfl ⟨⟨⟨⟨5,0,⟨#[]⟩,l⟩,A,c,q,rfl,ax.o.more av,(λ ad h=>a9 (Y.o.2 ad h)),by show l.length<=_;omega,by show 0<=_;omega,(λ h=>by rw[p.o,F.o.1 h];rfl),(λ h=>by rw[p.o,F.o.2 h];rfl)⟩⟩,t⟩
 have aE:(((s[0].toNat:Nat):Int) == 123)=false:=by simpa using iG
 have ac:=qh (head_ne (c:=123) E iG);clear iG;by_cases h64:((s[0].toNat:Nat):Int)=64
 .have ap:(((s[0].toNat:Nat):Int) == 64)=true:=by simpa using h64
  have p:=qh (Y7 C.o (head_eq (c:=64) E h64));clear h64;obtain⟨K,N,q,hv,B,z⟩:=JS 6 (jw s.data.toList.tail);have HV:=qh hv;have F:=qh (show (q=true->dC s.data.toList=some ⟨K,N,[],[]⟩)/\(q=false->dC s.data.toList=none) from ⟨λ h=>by rw[p.o];obtain⟨e1,e2⟩:=B h;rw[e2,e1];rfl,λ h=>by rw[p.o,z h];rfl⟩);clear hv B z;go_enter Tryz.func325,Tryz.ntmps325;go_wp2_with fail;rw[<- HW.o];refine (O4 s W hs (by omega) (HM.o.below d)).mono ?_;rw[HV.o];rintro e G ⟨rfl,o⟩;have B0:=b.below o b.lt;have x:=d.trans (o.mono d.size);clear o;obtain⟨V,J,Q,I,M,U,T,O⟩:=ah.z4 B0;go_wp2;obtain⟨D,n,u,t⟩:=dW B0 x (aL aM K) (aL aM N) (aR ⟨#[]⟩) (a0 none 0 0);rw[<- n];clear n;obtain⟨r,f,g,j⟩:=ah.c4 u;refine bodyPost_ret (v:=.tuple #[.agg #[aL aM K,aL aM N,aR ⟨#[]⟩,a0 none 0 0],a2 q]) (by simp[results,Tryz.results325,go_sem,r,f,g,j]) rfl ⟨GV.plain K N ⟨#[]⟩ q (by decide) F.o.1 F.o.2,t⟩
 have ap:(((s[0].toNat:Nat):Int) == 64)=false:=by simpa using h64
 have ae:=qh (head_ne (c:=64) E h64);clear h64;have i0:∀ w,(Instr.index 348 (.agg #[aR ⟨#[]⟩,aR ⟨#[100,111,110,116,107,110,111,119]⟩,aR ⟨#[114,101,102,117,115,101,100]⟩,aR ⟨#[110,111,97,110,115,119,101,114]⟩]) (aL aM 0)).run Tryz.prog w = .ok (aR ⟨#[]⟩) w:=λ _=>by kernel_rfl
 have i1:∀ w,(Instr.index 348 (.agg #[aR ⟨#[]⟩,aR ⟨#[100,111,110,116,107,110,111,119]⟩,aR ⟨#[114,101,102,117,115,101,100]⟩,aR ⟨#[110,111,97,110,115,119,101,114]⟩]) (aL aM 1)).run Tryz.prog w = .ok (aR ⟨#[100,111,110,116,107,110,111,119]⟩) w:=λ _=>by kernel_rfl
 have i2:∀ w,(Instr.index 348 (.agg #[aR ⟨#[]⟩,aR ⟨#[100,111,110,116,107,110,111,119]⟩,aR ⟨#[114,101,102,117,115,101,100]⟩,aR ⟨#[110,111,97,110,115,119,101,114]⟩]) (aL aM 2)).run Tryz.prog w = .ok (aR ⟨#[114,101,102,117,115,101,100]⟩) w:=λ _=>by kernel_rfl
 have i3:∀ w,(Instr.index 348 (.agg #[aR ⟨#[]⟩,aR ⟨#[100,111,110,116,107,110,111,119]⟩,aR ⟨#[114,101,102,117,115,101,100]⟩,aR ⟨#[110,111,97,110,115,119,101,114]⟩]) (aL aM 3)).run Tryz.prog w = .ok (aR ⟨#[110,111,97,110,115,119,101,114]⟩) w:=λ _=>by kernel_rfl
 have Rn:=qh (λ G w2 w3=>VF C.o am.o al.o ac.o ae.o G w2 w3);clear am al ac ae;by_cases m:s.data.toList=w1T
 .have g0:(([]:List UInt8) == s.toList)=false:=by rw[a5,beq_eq_false_iff_ne];exact λ e=>C.o.a e.symm
  have g1:(([100,111,110,116,107,110,111,119]:List UInt8) == s.toList)=true:=by rw[a5,m];rfl
  have p:=qh (show dC s.data.toList=some ⟨1,1,[],[]⟩ by rw[m];rfl);clear m Rn;go_enter Tryz.func325,Tryz.ntmps325;go_wp2;rw[<- HW.o]
  go_loop [70] (λ i=>∃ k:Nat,k<=1/\i = aL aM k) (λ i=>5 - (intOf i).toNat)
  case atStart=>exact⟨0,a7 _,rfl⟩
  case round =>
   obtain⟨k,S,rfl⟩:=hrel;have y:k=0\/k=1:=by omega
   clear S;rcases y with rfl | rfl
   .go_wp2
    go_round
    case rel=>exact⟨1,by omega,by first | rfl | go_num⟩
    case measure=>simp[intOf]
   .have V:W.cell? ⟨w.heap.size,0,none⟩=some (aL aM 0):=b.cell 0;have J:W.frozen? ⟨w.heap.size,0,none⟩=false:=b.frozen 0;have Q:W.cell? ⟨w.heap.size,1,none⟩=some (aL aM 0):=b.cell 1;have I:W.frozen? ⟨w.heap.size,1,none⟩=false:=b.frozen 1;have M:W.cell? ⟨w.heap.size,2,none⟩=some (aR ⟨#[]⟩):=b.cell 2;have U:W.frozen? ⟨w.heap.size,2,none⟩=false:=b.frozen 2;have T:W.cell? ⟨w.heap.size,3,none⟩=some (a0 none 0 0):=b.cell 3;have O:W.frozen? ⟨w.heap.size,3,none⟩=false:=b.frozen 3;go_wp2;obtain⟨D,n,u,t⟩:=dW b d (aL aM 1) (aL aM 1) (aR ⟨#[]⟩) (a0 none 0 0);rw[<- n];clear n;obtain⟨r,f,g,j⟩:=ah.c4 u;refine bodyPost_ret (v:=.tuple #[.agg #[aL aM 1,aL aM 1,aR ⟨#[]⟩,a0 none 0 0],a2 true]) (by simp[results,Tryz.results325,go_sem,r,f,g,j]) rfl ⟨GV.plain 1 1 ⟨#[]⟩ true (by decide) (λ _=>p.o) (λ h=>by cases h),t⟩
 by_cases hw2:s.data.toList=w2T
 .have g0:(([]:List UInt8) == s.toList)=false:=by rw[a5,beq_eq_false_iff_ne];exact λ e=>C.o.a e.symm
  have g1:(([100,111,110,116,107,110,111,119]:List UInt8) == s.toList)=false:=by rw[a5,beq_eq_false_iff_ne];exact λ e=>m e.symm
  have g2:(([114,101,102,117,115,101,100]:List UInt8) == s.toList)=true:=by rw[a5,hw2];rfl
  have p:=qh (show dC s.data.toList=some ⟨1,2,[],[]⟩ by rw[hw2];rfl);clear m hw2 Rn;go_enter Tryz.func325,Tryz.ntmps325;go_wp2;rw[<- HW.o]
  go_loop [70] (λ i=>∃ k:Nat,k<=2/\i = aL aM k) (λ i=>5 - (intOf i).toNat)
  case atStart=>exact⟨0,a7 _,rfl⟩
  case round =>
   obtain⟨k,S,rfl⟩:=hrel;have y:k=0\/k=1\/k=2:=by omega
   clear S;rcases y with rfl | rfl | rfl
   .go_wp2
    go_round
    case rel=>exact⟨1,by omega,by first | rfl | go_num⟩
    case measure=>simp[intOf]
   .go_wp2
    go_round
    case rel=>exact⟨2,by omega,by first | rfl | go_num⟩
    case measure=>simp[intOf]
   .have V:W.cell? ⟨w.heap.size,0,none⟩=some (aL aM 0):=b.cell 0;have J:W.frozen? ⟨w.heap.size,0,none⟩=false:=b.frozen 0;have Q:W.cell? ⟨w.heap.size,1,none⟩=some (aL aM 0):=b.cell 1;have I:W.frozen? ⟨w.heap.size,1,none⟩=false:=b.frozen 1;have M:W.cell? ⟨w.heap.size,2,none⟩=some (aR ⟨#[]⟩):=b.cell 2;have U:W.frozen? ⟨w.heap.size,2,none⟩=false:=b.frozen 2;have T:W.cell? ⟨w.heap.size,3,none⟩=some (a0 none 0 0):=b.cell 3;have O:W.frozen? ⟨w.heap.size,3,none⟩=false:=b.frozen 3;go_wp2;obtain⟨D,n,u,t⟩:=dW b d (aL aM 1) (aL aM 2) (aR ⟨#[]⟩) (a0 none 0 0);rw[<- n];clear n;obtain⟨r,f,g,j⟩:=ah.c4 u;refine bodyPost_ret (v:=.tuple #[.agg #[aL aM 1,aL aM 2,aR ⟨#[]⟩,a0 none 0 0],a2 true]) (by simp[results,Tryz.results325,go_sem,r,f,g,j]) rfl ⟨GV.plain 1 2 ⟨#[]⟩ true (by decide) (λ _=>p.o) (λ h=>by cases h),t⟩
 by_cases hw3:s.data.toList=w3T
 .have g0:(([]:List UInt8) == s.toList)=false:=by rw[a5,beq_eq_false_iff_ne];exact λ e=>C.o.a e.symm
  have g1:(([100,111,110,116,107,110,111,119]:List UInt8) == s.toList)=false:=by rw[a5,beq_eq_false_iff_ne];exact λ e=>m e.symm
  have g2:(([114,101,102,117,115,101,100]:List UInt8) == s.toList)=false:=by rw[a5,beq_eq_false_iff_ne];exact λ e=>hw2 e.symm
  have g3:(([110,111,97,110,115,119,101,114]:List UInt8) == s.toList)=true:=by rw[a5,hw3];rfl
  have p:=qh (show dC s.data.toList=some ⟨1,3,[],[]⟩ by rw[hw3];rfl);clear m hw2 hw3 Rn;go_enter Tryz.func325,Tryz.ntmps325;go_wp2;rw[<- HW.o]
  go_loop [70] (λ i=>∃ k:Nat,k<=3/\i = aL aM k) (λ i=>5 - (intOf i).toNat)
  case atStart=>exact⟨0,a7 _,rfl⟩
  case round =>
   obtain⟨k,S,rfl⟩:=hrel;have y:k=0\/k=1\/k=2\/k=3:=by omega
   clear S;rcases y with rfl | rfl | rfl | rfl
   .go_wp2
    go_round
    case rel=>exact⟨1,by omega,by first | rfl | go_num⟩
    case measure=>simp[intOf]
   .go_wp2
    go_round
    case rel=>exact⟨2,by omega,by first | rfl | go_num⟩
    case measure=>simp[intOf]
   .go_wp2
    go_round
    case rel=>exact⟨3,by omega,by first | rfl | go_num⟩
    case measure=>simp[intOf]
   .have V:W.cell? ⟨w.heap.size,0,none⟩=some (aL aM 0):=b.cell 0;have J:W.frozen? ⟨w.heap.size,0,none⟩=false:=b.frozen 0;have Q:W.cell? ⟨w.heap.size,1,none⟩=some (aL aM 0):=b.cell 1;have I:W.frozen? ⟨w.heap.size,1,none⟩=false:=b.frozen 1;have M:W.cell? ⟨w.heap.size,2,none⟩=some (aR ⟨#[]⟩):=b.cell 2;have U:W.frozen? ⟨w.heap.size,2,none⟩=false:=b.frozen 2;have T:W.cell? ⟨w.heap.size,3,none⟩=some (a0 none 0 0):=b.cell 3;have O:W.frozen? ⟨w.heap.size,3,none⟩=false:=b.frozen 3;go_wp2;obtain⟨D,n,u,t⟩:=dW b d (aL aM 1) (aL aM 3) (aR ⟨#[]⟩) (a0 none 0 0);rw[<- n];clear n;obtain⟨r,f,g,j⟩:=ah.c4 u;refine bodyPost_ret (v:=.tuple #[.agg #[aL aM 1,aL aM 3,aR ⟨#[]⟩,a0 none 0 0],a2 true]) (by simp[results,Tryz.results325,go_sem,r,f,g,j]) rfl ⟨GV.plain 1 3 ⟨#[]⟩ true (by decide) (λ _=>p.o) (λ h=>by cases h),t⟩
 have g0:(([]:List UInt8) == s.toList)=false:=by rw[a5,beq_eq_false_iff_ne];exact λ e=>C.o.a e.symm
 have g1:(([100,111,110,116,107,110,111,119]:List UInt8) == s.toList)=false:=by rw[a5,beq_eq_false_iff_ne];exact λ e=>m e.symm
 have g2:(([114,101,102,117,115,101,100]:List UInt8) == s.toList)=false:=by rw[a5,beq_eq_false_iff_ne];exact λ e=>hw2 e.symm
 have g3:(([110,111,97,110,115,119,101,114]:List UInt8) == s.toList)=false:=by rw[a5,beq_eq_false_iff_ne];exact λ e=>hw3 e.symm
 have p:=qh (Rn.o m hw2 hw3);clear m hw2 hw3 Rn;go_enter Tryz.func325,Tryz.ntmps325;go_wp2;rw[<- HW.o]
 go_loop [70] (λ i=>∃ k:Nat,k<=4/\i = aL aM k) (λ i=>5 - (intOf i).toNat)
 case atStart=>exact⟨0,a7 _,rfl⟩
 case round =>
  obtain⟨k,S,rfl⟩:=hrel;have y:k=0\/k=1\/k=2\/k=3\/k=4:=by omega
  clear S;rcases y with rfl | rfl | rfl | rfl | rfl
  .go_wp2
   go_round
   case rel=>exact⟨1,by omega,by first | rfl | go_num⟩
   case measure=>simp[intOf]
  .go_wp2
   go_round
   case rel=>exact⟨2,by omega,by first | rfl | go_num⟩
   case measure=>simp[intOf]
  .go_wp2
   go_round
   case rel=>exact⟨3,by omega,by first | rfl | go_num⟩
   case measure=>simp[intOf]
  .go_wp2
   go_round
   case rel=>exact⟨4,by omega,by first | rfl | go_num⟩
   case measure=>simp[intOf]
  .obtain⟨K,N,q,hv,B,z⟩:=JS 2 (jR s.data.toList);have HV:=qh hv;have F:=qh (show (q=true->dC s.data.toList=some ⟨K,N,[],[]⟩)/\(q=false->dC s.data.toList=none) from ⟨λ h=>by rw[p.o];obtain⟨e1,e2⟩:=B h;rw[e2,e1];rfl,λ h=>by rw[p.o,z h];rfl⟩);clear hv B z;go_wp2_with fail;refine (GH s W hs (HM.o.below d)).mono ?_;rw[HV.o];rintro e G ⟨rfl,o⟩;have B0:=b.below o b.lt;have x:=d.trans (o.mono d.size);clear o;obtain⟨V,J,Q,I,M,U,T,O⟩:=ah.z4 B0;go_wp2;obtain⟨D,n,u,t⟩:=dW B0 x (aL aM K) (aL aM N) (aR ⟨#[]⟩) (a0 none 0 0);rw[<- n];clear n;obtain⟨r,f,g,j⟩:=ah.c4 u;refine bodyPost_ret (v:=.tuple #[.agg #[aL aM K,aL aM N,aR ⟨#[]⟩,a0 none 0 0],a2 q]) (by simp[results,Tryz.results325,go_sem,r,f,g,j]) rfl ⟨GV.plain K N ⟨#[]⟩ q (by decide) F.o.1 F.o.2,t⟩
theorem VH (s:ByteArray) (w:World) (b:s.size<=2000000) (c:Mx w) :
  Calls Tryz.prog 325 #[aR s] w λ e w'=>GV e w' w.heap.size s.data.toList/\IY w w':=by
 by_cases h:s.data.toList = []
 .have a:s=⟨#[]⟩:=vX (by first | (rw[h];done) | (rw[h];rfl));subst a;clear h b c;go_enter Tryz.func325,Tryz.ntmps325;go_wp2;refine bodyPost_ret (v:=.tuple #[.agg #[aL aM 0,aL aM 0,aR ⟨#[]⟩,a0 none 0 0],a2 false]) (by simp[results,Tryz.results325,go_sem]) rfl ⟨GV.plain 0 0 ⟨#[]⟩ false (by decide) (λ h=>by first | rfl | cases h) (λ h=>by first | rfl | cases h),?_⟩
  first
   | exact (Below.refl _ _).alloc (a4 _) _
   | exact ((Below.refl _ _).alloc (a4 _) _).alloc (by simp) _
 by_cases h:s.data.toList = [45]
 .have a:s=⟨#[45]⟩:=vX (by first | (rw[h];done) | (rw[h];rfl));subst a;clear h b c;go_enter Tryz.func325,Tryz.ntmps325;go_wp2;refine bodyPost_ret (v:=.tuple #[.agg #[aL aM 0,aL aM 0,aR ⟨#[]⟩,a0 none 0 0],a2 true]) (by simp[results,Tryz.results325,go_sem]) rfl ⟨GV.plain 0 0 ⟨#[]⟩ true (by decide) (λ h=>by first | rfl | cases h) (λ h=>by first | rfl | cases h),?_⟩
  first
   | exact (Below.refl _ _).alloc (a4 _) _
   | exact ((Below.refl _ _).alloc (a4 _) _).alloc (by simp) _
 by_cases h:s.data.toList=qX
 .have a:s=⟨#[116,114,117,101]⟩:=vX (by first | (rw[h];done) | (rw[h];rfl));subst a;clear h b c;go_enter Tryz.func325,Tryz.ntmps325;go_wp2;refine bodyPost_ret (v:=.tuple #[.agg #[aL aM 7,aL aM 1,aR ⟨#[]⟩,a0 none 0 0],a2 true]) (by simp[results,Tryz.results325,go_sem]) rfl ⟨GV.plain 7 1 ⟨#[]⟩ true (by decide) (λ h=>by first | rfl | cases h) (λ h=>by first | rfl | cases h),?_⟩
  first
   | exact (Below.refl _ _).alloc (a4 _) _
   | exact ((Below.refl _ _).alloc (a4 _) _).alloc (by simp) _
 by_cases h:s.data.toList=nH
 .have a:s=⟨#[102,97,108,115,101]⟩:=vX (by first | (rw[h];done) | (rw[h];rfl));subst a;clear h b c;go_enter Tryz.func325,Tryz.ntmps325;go_wp2;refine bodyPost_ret (v:=.tuple #[.agg #[aL aM 7,aL aM 0,aR ⟨#[]⟩,a0 none 0 0],a2 true]) (by simp[results,Tryz.results325,go_sem]) rfl ⟨GV.plain 7 0 ⟨#[]⟩ true (by decide) (λ h=>by first | rfl | cases h) (λ h=>by first | rfl | cases h),?_⟩
  first
   | exact (Below.refl _ _).alloc (a4 _) _
   | exact ((Below.refl _ _).alloc (a4 _) _).alloc (by simp) _
 rename_i d f g;exact VG s w b c ⟨by assumption,by assumption,by assumption,by assumption⟩
structure RV (e:Ending) (w:World) (B:Nat) (s:List UInt8):Prop where
 ex:∃ (x:Val) (A:Option Addr) (c:Nat) (f:Int),e = a3 (.tuple #[.agg (BO x A c),aL aM f])/\Reads w w.heap.size 1 A x.l.length (bI aM x.l)/\(∀ ad,A=some ad->B<=ad.block)/\x.l.length<=4000000/\x.s.size<=4000000 /\
  (f=0->bG x=0/\showT x.k x.n x.s.data.toList x.l=s)/\(f≠0->f=10/\x=⟨0,0,⟨#[]⟩,[]⟩/\∀ v:Val,bG v=0->showT v.k v.n v.s.data.toList v.l≠s)
theorem acn {x v:Val} (h:(⟨x.k,x.n,x.s.data.toList,x.l⟩:Q)=⟨v.k,v.n,v.s.data.toList,v.l⟩):x=v:=by
 obtain⟨k,n,s,l⟩:=x;obtain⟨d,b,s',c⟩:=v;injection h with h1 h2 h3 h4;simp only at h1 h2 h3 h4;have a:s=s':=(vX h3).trans (vX (t:=s') rfl).symm;subst h1 h2 a h4;rfl
theorem aco {s:List UInt8} (h:dC s=none):∀ v:Val,bG v=0->showT v.k v.n v.s.data.toList v.l≠s:=λ v a e=>by
 have:=uN (zB a).1;rw[e,h] at this;cases this
theorem O5 {s:List UInt8} {x:Val} (h:dC s=some ⟨x.k,x.n,x.s.data.toList,x.l⟩) (a:bG x≠0\/showT x.k x.n x.s.data.toList x.l≠s):∀ v:Val,bG v=0->showT v.k v.n v.s.data.toList v.l≠s:=λ v b e=>by
 have:=uN (zB b).1;rw[e,h] at this;have:=acn (Option.some.inj this);subst this;rcases a with a | a
 .exact a b
 .exact a e
theorem G6 (s:ByteArray) (w:World) (hs:s.size<=2000000) (o:Tab w) (hm:Mx w) :
  Calls Tryz.prog 320 #[aR s] w λ e w'=>RV e w' w.heap.size s.data.toList/\IY w w':=by
 have HT:=qh o;have HM:=qh hm;clear o hm;go_enter Tryz.func320,Tryz.ntmps320;go_wp2_with fail;obtain⟨W,F⟩:=aC ((w.alloc (.cells #[aL aM 0,aL aM 0,aR ⟨#[]⟩,a0 none 0 0] 65 (0,0))));have a:IY w W:=by rw[F];exact ((Below.refl _ w).alloc (a4 _) _)
 have B0:ah W (w.heap.size) 65 #[aL aM 0,aL aM 0,aR ⟨#[]⟩,a0 none 0 0]:=by
  rw[F];have:=ah.new w 65 #[aL aM 0,aL aM 0,aR ⟨#[]⟩,a0 none 0 0];exact this
 have V:W.heap.size=w.heap.size+1:=by rw[F];simp
 rw[<- F];clear F V;refine (VH s W hs (HM.o.below a)).mono ?_;rintro e y ⟨hg,r⟩;obtain⟨x,A,c,ok,rfl,E,hA,hl,X,q1,q2⟩:=hg.ex;have B:∀ ad,A=some ad->w.heap.size<ad.block:=λ ad h=>a8 B0.lt (hA ad h);have m:=qh (a6 E B);have HQ:=qh (a6 q1 q2);have B0:=B0.below r B0.lt;have a:=a.trans (r.mono a.size);clear hg r E hA q1 q2 B;go_upto_region 2 with (fail);obtain⟨W2,n⟩:=aC (y.alloc (.cells (BO x A c) 65 (0,0)));have l:IY y W2:=n▸(Below.refl _ y).alloc (a4 _) _;have B3:ah W2 y.heap.size 65 (BO x A c):=n▸ah.new y _ _;rw[<- n];have ab:=B0.lt;have B0:=B0.below l B0.lt;have H:=m.o.1.below l;have G:y.heap.size<=W2.heap.size:=l.size;have a:=a.trans (l.mono a.size);have m:=qh (a6 (H.more G) m.o.2);clear n l H;obtain⟨R,K,N,I,L,Q,O,M⟩:=ah.z4 B0;obtain⟨T,S,J,P⟩:=ah.c4 B3;cases ok
 .have C:=qh (aco (HQ.o.2 rfl));go_wp2;obtain⟨D,j,u,q⟩:=dW B0 a (aL aM 0) (aL aM 0) (aR ⟨#[]⟩) (a0 none 0 0);rw[<- j];clear j;obtain⟨p,b,d,g⟩:=ah.c4 u;refine bodyPost_ret (v:=.tuple #[.agg #[aL aM 0,aL aM 0,aR ⟨#[]⟩,a0 none 0 0],aL aM 10]) (by simp[results,Tryz.results320,go_sem,p,b,d,g]) rfl ⟨⟨⟨⟨0,0,⟨#[]⟩,[]⟩,none,0,10,rfl,Reads.none_,(λ _ h=>by cases h),by simp,by decide,(λ h=>absurd h (by decide)),(λ _=>⟨rfl,rfl,C.o⟩)⟩⟩,q⟩
 have HG:=qh (HQ.o.1 rfl);go_wp2_with fail;refine (check_any x A c W2.heap.size W2 (by unfold maxLen;omega) (by unfold maxLen;omega) m.o.1 (a4 _)).mono ?_;rintro e w3 ⟨rfl,k⟩;obtain⟨f,hf⟩:=af (bG x);have HF:=qh hf;rw[hf];have B0:=B0.below k B0.lt;have B3:=B3.below k B3.lt;have m:=qh (a6 ((m.o.1.below k).more k.size) m.o.2);have a:=a.trans (k.mono a.size);clear hf k R K N I L Q O M T S J P;obtain⟨R,K,N,I,L,Q,O,M⟩:=ah.z4 B0;obtain⟨T,S,J,P⟩:=ah.c4 B3;by_cases h0:f=0;rotate_left
 .have aa:(f != 0)=true:=by simpa using h0
  have C:=qh (O5 HG.o (.inl (by rw[HF.o];exact h0)));clear h0;go_wp2;obtain⟨D,j,u,q⟩:=dW B0 a (aL aM 0) (aL aM 0) (aR ⟨#[]⟩) (a0 none 0 0);rw[<- j];clear j;obtain⟨p,b,d,g⟩:=ah.c4 u;refine bodyPost_ret (v:=.tuple #[.agg #[aL aM 0,aL aM 0,aR ⟨#[]⟩,a0 none 0 0],aL aM 10]) (by simp[results,Tryz.results320,go_sem,p,b,d,g]) rfl ⟨⟨⟨⟨0,0,⟨#[]⟩,[]⟩,none,0,10,rfl,Reads.none_,(λ _ h=>by cases h),by simp,by decide,(λ h=>absurd h (by decide)),(λ _=>⟨rfl,rfl,C.o⟩)⟩⟩,q⟩
 subst h0;obtain⟨hq,ae,ac⟩:=zB HF.o;have Y:=qh hq;clear hq;go_wp2_with fail;refine (OM x.k x.n x.s x.l _ A c w3.heap.size w3 rfl Y.o (by omega) (by omega) m.o.1 (a4 _) (HT.o.below a) (HM.o.below a)).mono ?_;rintro e w4 ⟨⟨t,rfl,ht⟩,i⟩;have jP:=qh ht;have B0:=B0.below i B0.lt;have B3:=B3.below i B3.lt;have z:=qh (a6 ((m.o.1.below i).more i.size) m.o.2);have a:=a.trans (i.mono a.size);clear ht i R K N I L Q O M T S J P;obtain⟨R,K,N,I,L,Q,O,M⟩:=ah.z4 B0;obtain⟨T,S,J,P⟩:=ah.c4 B3;by_cases he:t=s
 .have b0:(t.toList == s.toList)=true:=jb he;have HE:=qh (show showT x.k x.n x.s.data.toList x.l=s.data.toList by rw[<- jP.o,he]);clear he;go_wp2;obtain⟨D,j,u,q⟩:=dW B0 a (aL aM x.k) (aL aM x.n) (aR x.s) (a0 A x.l.length c);have Z:=qh (j▸(((z.o.1.apart z.o.2 _).apart z.o.2 _).apart z.o.2 _).apart z.o.2 _:Reads D w4.heap.size 1 A x.l.length (bI aM x.l));have U:w4.heap.size<=D.heap.size:=by rw[j];simp[World.setCell]
  rw[<- j];clear j;obtain⟨p,b,d,g⟩:=ah.c4 u;refine bodyPost_ret (v:=.tuple #[.agg (BO x A c),aL aM 0]) (by simp[results,Tryz.results320,go_sem,p,b,d,g]) rfl ⟨⟨⟨x,A,c,0,rfl,Z.o.more U,(λ ad h=>a9 (z.o.2 ad h)),hl,X,(λ _=>⟨HF.o,HE.o⟩),(λ h=>absurd rfl h)⟩⟩,q⟩
 .have b0:(t.toList == s.toList)=false:=dE he;have C:=qh (O5 HG.o (.inr (λ e=>he ((vX (jP.o.trans e)).trans (vX (t:=s) rfl).symm))));clear he;go_wp2;obtain⟨D,j,u,q⟩:=dW B0 a (aL aM 0) (aL aM 0) (aR ⟨#[]⟩) (a0 none 0 0);rw[<- j];clear j;obtain⟨p,b,d,g⟩:=ah.c4 u;refine bodyPost_ret (v:=.tuple #[.agg #[aL aM 0,aL aM 0,aR ⟨#[]⟩,a0 none 0 0],aL aM 10]) (by simp[results,Tryz.results320,go_sem,p,b,d,g]) rfl ⟨⟨⟨⟨0,0,⟨#[]⟩,[]⟩,none,0,10,rfl,Reads.none_,(λ _ h=>by cases h),by simp,by decide,(λ h=>absurd h (by decide)),(λ _=>⟨rfl,rfl,C.o⟩)⟩⟩,q⟩
end Go.Proofs.YtcnagconagpkcaaGreatDoor
namespace Go.Proofs.YtcnagconagpkcaaGreatDoor
open Go.RowKit
abbrev Kp (g:Nat) (w w':World):Prop:=w.grownBy w' (some g)
theorem Bj (g:Nat) (w:World):Kp g w w:=⟨rfl,rfl,rfl,a4 _,λ _ _ _=>rfl⟩
theorem Kp.trans {g:Nat} {w b w2:World} (h:Kp g w b) (a:Kp g b w2):Kp g w w2:=
 ⟨a.os.trans h.os,a.tape.trans h.tape,a.output.trans h.output,Nat.le_trans h.size a.size,λ k c d=>(a.block k (a8 c h.size) d).trans (h.block k c d)⟩
theorem Kp.of {g:Nat} {w w':World} (h:IY w w'):Kp g w w':=⟨h.os,h.tape,h.output,h.size,λ k a _=>h.block k a⟩
theorem Kp.below {g B:Nat} {w w':World} (h:Kp g w w') (c:B<=g) (b:B<=w.heap.size):Below B w w':=
 (Below.refl B w).grown h b (λ k a=>by injection a with a;omega)
theorem Kp.set {g:Nat} {w w':World} (h:Kp g w w') (i:Nat) (u:Value):Kp g w (w'.setCell ⟨g,i,none⟩ u):=
 h.trans ⟨rfl,rfl,rfl,by simp[World.setCell],λ k _ a=>Below.heap_setCell w' ⟨g,i,none⟩ u k (λ e=>a (by rw[e]))⟩
theorem Kp.alloc {g:Nat} {w w':World} (h:Kp g w w') (o:Obj):Kp g w (w'.alloc o):=h.trans (Kp.of ((Below.refl _ _).alloc (a4 _) o))
theorem fB (g:Nat) (w:World):∃ W,W=w.alloc (.cells #[aL aM 0,aL aM 0,aR ⟨#[]⟩,aL aM 0,aL aM 0,aR ⟨#[]⟩,a0 none 0 0,a0 none 0 0] 67 (0,0))/\Kp g w W/\ZB W w.heap.size/\W.heap.size=w.heap.size+1/\w.heap.size<W.heap.size/\IY w W:=⟨_,rfl,(Bj g w).alloc _,ah.new w _ _,by simp,by simp,(Below.refl _ w).alloc (a4 _) _⟩
theorem Y8 (g:Nat) (w:World):∃ W,W=w.alloc (.cells #[aL aM 0,aL aM 0,aR ⟨#[]⟩,aL aM 0,aL aM 0,aR ⟨#[]⟩,a0 none 0 0,a0 none 0 0] 67 (0,0))/\Kp g w W/\Hid (ZB W w.heap.size)/\W.heap.size=w.heap.size+1/\w.heap.size<W.heap.size/\IY w W:=⟨_,rfl,(Bj g w).alloc _,qh (ah.new w _ _),by simp,by simp,(Below.refl _ w).alloc (a4 _) _⟩
theorem Kp.cell {g:Nat} {w w':World} (h:Kp g w w') {a:Addr} (c:a.block≠g) {v:Value} (b:w.cell? a=some v):w'.cell? a=some v:=by
 rw[World.cell?_of_block (h.block a.block (block_lt_of_cell b) (λ e=>c (by injection e)))];exact b
structure lI (w:World) (p:Nat->Prop) (B size:Nat) (A:Option Addr) (n:Nat) (xs:List Value):Prop where
 r:Reads w B size A n xs
 l:0<n->∀ ad,A=some ad->p ad.block
def dN (p:Nat->Prop) (w w':World):Prop:=w.heap.size<=w'.heap.size/\∀ k,p k->k<w.heap.size->w'.heap[k]?=w.heap[k]?
theorem Kp.stay {g:Nat} {w w':World} (h:Kp g w w') {p:Nat->Prop} (c:∀ k,p k->k≠g):dN p w w':=⟨h.size,λ k b a=>h.block k a (λ e=>c k b (by injection e))⟩
theorem dN.of {p:Nat->Prop} {w w':World} (h:IY w w'):dN p w w':=⟨h.size,λ k _ a=>h.block k a⟩
theorem dN.grown {p:Nat->Prop} {w w':World} {row:Option Nat} (h:w.grownBy w' row) (c:∀ k,p k->some k≠row):dN p w w':=⟨h.size,λ k b a=>h.block k a (c k b)⟩
theorem lI.keep {w w':World} {p:Nat->Prop} {B size n:Nat} {A:Option Addr} {xs:List Value} (h:lI w p B size A n xs) (g:dN p w w'):lI w' p B size A n xs:=by
 refine⟨⟨h.r.1,λ c=>?_⟩,h.l⟩;obtain⟨ad,e,d,i⟩:=h.r.2 c;refine⟨ad,e,d,λ j u f=>?_⟩;have a:=i j u f;have b:=block_lt_of_cell a;rw[World.cell?_of_block (g.2 _ (by rw[iZ];exact h.l c ad e) b)];exact a
theorem lI.up {w:World} {p:Nat->Prop} {B B' size n:Nat} {A:Option Addr} {xs:List Value} (h:lI w p B size A n xs) (a:B<=B'):lI w p B' size A n xs:=⟨h.r.more a,h.l⟩
inductive dD (w:World) (p:Nat->Prop) (B:Nat):Ex->List Value->Prop
 | mk {e:Ex} {A:Option Addr} {c:Nat} {A':Option Addr} {c':Nat} {cs:List Value} (hn:e.nm.size<=maxLen) (hs:e.v.s.size<=maxLen) (hl:e.v.l.length<=maxLen) (ha:e.ar.length<=maxLen)
   (hx:lI w p B 1 A e.v.l.length (bI aM e.v.l)) (hr:lI w p B 8 A' e.ar.length cs) (hi:∀ i (h:i<e.ar.length),dD w p B e.ar[i] ((cs.drop (i*8)).take 8)):dD w p B e (ai e A c A' c')
theorem dD.at_ {w:World} {p:Nat->Prop} {B:Nat} {e:Ex} {cs:List Value} (h:dD w p B e cs):aZ w B e cs:=by
 induction h with
 | mk hn hs hl ha hx hr hi ih=>exact .mk hn hs hl ha hx.r hr.r ih
theorem dD.keep {w w':World} {p:Nat->Prop} {B:Nat} {e:Ex} {cs:List Value} (h:dD w p B e cs) (a:dN p w w'):dD w' p B e cs:=by
 induction h with
 | mk hn hs hl ha hx hr hi ih=>exact .mk hn hs hl ha (hx.keep a) (hr.keep a) ih
theorem dD.up {w:World} {p:Nat->Prop} {B B':Nat} {e:Ex} {cs:List Value} (h:dD w p B e cs) (a:B<=B'):dD w p B' e cs:=by
 induction h with
 | mk hn hs hl ha hx hr hi ih=>exact .mk hn hs hl ha (hx.up a) (hr.up a) ih
theorem dD.imp {w:World} {p q:Nat->Prop} {B:Nat} {e:Ex} {cs:List Value} (h:dD w p B e cs) (c:∀ k,p k->k<B->q k):dD w q B e cs:=by
 have a:∀ {size n:Nat} {A:Option Addr} {xs:List Value},lI w p B size A n xs->lI w q B size A n xs:=λ a=>⟨a.r,λ d ad e=>by
  obtain⟨g,b,f,-⟩:=a.r.2 d;rw[e] at b;injection b with b;subst b;exact c _ (a.l d ad e) f⟩
 induction h with
 | mk hn hs hl ha hx hr hi ih=>exact .mk hn hs hl ha (a hx) (a hr) ih
def aS (s:ByteArray) (i:Nat):Nat:=match dL s.data.toList i with
 | some t=>t.at_
 | none=>s.size
def aO (s:ByteArray) (i:Nat):List UInt8:=match dL s.data.toList i with
 | some t=>t.tx
 | none=>[]
def gy (s:ByteArray) (i:Nat):Bool:=match dL s.data.toList i with
 | some t=>t.touch
 | none=>false
def tb (l:List UInt8):ByteArray:=⟨l.toArray⟩
theorem jJ (l:List UInt8):(tb l).data.toList=l:=by simp[tb]
theorem kY (l:List UInt8):(tb l).size=l.length:=by simp[tb,ByteArray.size]
theorem Y9 (s:ByteArray):tb s.data.toList=s:=by unfold tb;exact ByteArray.ext (by simp)
theorem LV {a b:List UInt8} (h:tb a=tb b):a=b:=by rw[<- jJ a,h,jJ]
structure aT (w:World) (g:Nat) (s:ByteArray) (i:Nat):Prop where
 b:ah w g 346 #[aR s,aL aM (aS s i:Nat),aR (tb (aO s i)),a2 (gy s i)]
 i:i<=s.size
 s:s.size<=4000
theorem aY (s:ByteArray):s.data.toList.length=s.size:=by rw[Array.length_toList];rfl
theorem afb (s:ByteArray) {i:Nat} (a:i<=s.size):i<=aS s i/\aS s i+(aO s i).length<=s.size:=by
 unfold aS aO;cases h:dL s.data.toList i with
 | none=>exact⟨a,by simp⟩
 | some t =>
  have:=gq h;rw[aY] at this;dsimp only;omega
def wG (w:World) (g:Nat) (s:ByteArray) (r:yD) (e:Ending) (w':World):Prop:=match r with
 | .ok es l'=>∃ x i cs,es = [x]/\l'=wordsOf s.data.toList i/\e = a3 (.agg cs.toArray)/\dD w' (λ b=>w.heap.size<=b) w'.heap.size x cs/\aT w' g s i/\Kp g w w'
 | .err k=>e = .panicked [{ v:=.iface 342 (.agg #[aL aM (k:Nat)]),recovered:=false }]/\Kp g w w'
end Go.Proofs.YtcnagconagpkcaaGreatDoor
namespace Go.Proofs.YtcnagconagpkcaaGreatDoor
open Go.RowKit Vtx
theorem acp (s:ByteArray) (i:Nat) {word:List UInt8} (h:word≠[]):ni (wordsOf s.data.toList i) word=(decide (aO s i=word) && !gy s i):=by
 unfold aO gy;rw[iF];cases dL s.data.toList i with
 | none=>show false=(decide (([]:List UInt8)=word) && !false);rw[decide_eq_false (λ e=>h e.symm)];rfl
 | some t=>simp[ni,Bool.and_comm]
theorem mV (s:ByteArray) (i:Nat):qB s.data.toList.length (wordsOf s.data.toList i)=aS s i:=by
 unfold aS;rw[iF];cases dL s.data.toList i with
 | none=>exact aY s
 | some t=>rfl
theorem ah3 (a b:List UInt8):((tb a).toList == (tb b).toList)=decide (a=b):=by
 by_cases h:a=b
 .rw[decide_eq_true h];exact jb (by rw[h])
 .rw[decide_eq_false h];exact dE (λ e=>h (LV e))
theorem xI (g:Nat) (s:ByteArray) (i:Nat) (w:World) (h:aT w g s i) (word:List UInt8) (o:word≠[]) :
  KG 289 #[a1 (some ⟨g,0,none⟩),aR (tb word)] w (a2 (ni (wordsOf s.data.toList i) word)):=by
 have l:=h.b.cell 2;have m:=h.b.cell 3;have f:=qh (acp s i o);obtain⟨t,k⟩:=af (tb word);obtain⟨u,j⟩:=af (tb (aO s i));have n:(u.toList == t.toList)=decide (aO s i=word):=by rw[<- k,<- j];exact ah3 _ _
 obtain⟨b,a⟩:=af (decide (aO s i=word));obtain⟨d,c⟩:=af (gy s i);rw[a] at n;rw[k];have f:=qh (f.o.trans (by rw[a,c]));rw[j,c] at l m;change w.cell? ⟨g,2,none⟩=some (aR u) at l;change w.cell? ⟨g,3,none⟩=some (a2 d) at m;clear a c k j h;cases b
 .go_enter Tryz.func289,Tryz.ntmps289;go_wp2_with fail;go_ret;exact⟨au (by rw[f.o];rfl),rfl⟩
 .go_enter Tryz.func289,Tryz.ntmps289;go_wp2_with fail;go_ret;exact⟨au (by rw[f.o];rfl),rfl⟩
abbrev JU (k:Nat):Ending:=.panicked [{ v:=.iface 342 (.agg #[aL aM (k:Nat)]),recovered:=false }]
theorem iD (g:Nat) (s:ByteArray) (i:Nat) (w:World) (h:aT w g s i) :
  Calls Tryz.prog 256 #[a1 (some ⟨g,0,none⟩)] w λ e w'=>e=JU (aS s i)/\w=w':=by
 have a:w.cell? ⟨g,1,none⟩=some (aL aM (aS s i:Nat)):=h.b.cell 1;clear h;go_enter Tryz.func256,Tryz.ntmps256;go_wp2;exact⟨rfl,rfl,rfl⟩
theorem O6 {s:ByteArray} {E J:Nat} (a:J=E+bZ bM (s.data.toList.drop E)) (h:J<s.size):aS s E=J/\aO s E=(s.data.toList.drop J).take (dG (s.data.toList.drop J)) /\
  gy s E=(decide (J=E) && decide (0<E) && fC (s.data.toList.getD (E - 1) 0) && fC (s.data.toList.getD E 0)):=by
 have e:dL s.data.toList E=some ⟨J,(s.data.toList.drop J).take (dG (s.data.toList.drop J)),(decide (J=E) && decide (0<E) && fC (s.data.toList.getD (E - 1) 0) && fC (s.data.toList.getD E 0))⟩:=by
  unfold dL;rw[<- a,if_pos (by rw[aY];exact h),show decide (bZ bM (s.data.toList.drop E)=0)=decide (J=E) from decide_eq_decide.2 (by omega)]
 unfold aS aO gy;rw[e];exact⟨rfl,rfl,rfl⟩
theorem O7 {s:ByteArray} {E J:Nat} (a:J=E+bZ bM (s.data.toList.drop E)) (h:¬ J<s.size):aS s E=s.size/\aO s E = []/\gy s E=false:=by
 have e:dL s.data.toList E=none:=by
  unfold dL;rw[<- a,if_neg (by rw[aY];exact h)]
 unfold aS aO gy;rw[e];exact⟨rfl,rfl,rfl⟩
theorem lS {s:ByteArray} {i:Nat} (h:i<s.size):s.data.toList.getD i 0=s[i]:=by
 rw[List.getD_eq_getElem?_getD,List.getElem?_eq_getElem (by rw[aY];exact h)];rfl
theorem Ro (s:ByteArray) (J L:Nat):s.extract J (J+L)=tb ((s.data.toList.drop J).take L):=by
 unfold tb;refine ByteArray.ext (Array.toList_inj.1 ?_);rw[Lib.extract_data];simp
theorem acr {w:World} {g:Nat} {T:TypeId} {a b c d:Value} (h:ah w g T #[a,b,c,d]) (u:Value):ah (w.setCell ⟨g,3,none⟩ u) g T #[a,b,c,u]:=h.eG 3 u
theorem acs {w:World} {g:Nat} {T:TypeId} {a b c d:Value} (h:ah w g T #[a,b,c,d]) (u:Value):ah (w.setCell ⟨g,1,none⟩ u) g T #[a,u,c,d]:=h.eG 1 u
theorem VJ {w:World} {g:Nat} {T:TypeId} {a b c d:Value} (h:ah w g T #[a,b,c,d]) (u:Value):ah (w.setCell ⟨g,2,none⟩ u) g T #[a,b,u,d]:=h.eG 2 u
theorem TR {g:Nat} {w w':World} (h:Kp g w w') (n:Nat):Kp g w (w'.drewN n):=h.trans (Kp.of ((Below.refl _ _).drewN n))
theorem next_any (g:Nat) (s:ByteArray) (i:Nat) (w:World) (h:aT w g s i) :
  Calls Tryz.prog 254 #[a1 (some ⟨g,0,none⟩)] w λ e w'=>e = a3 (.tuple #[])/\aT w' g s (aS s i+(aO s i).length)/\Kp g w w':=by
 have d:=afb s h.i;have hs:=h.s;have p:=qh h.b;obtain⟨u,hu⟩:=af (tb (aO s i));have z:u.size=(aO s i).length:=by rw[<- hu,kY]
 rw[hu] at p;obtain⟨A,hA⟩:=af (aS s i);rw[hA] at p d ⊢;rw[<- z] at d ⊢;obtain⟨E,hE⟩:=af (A+u.size);rw[hE] at d ⊢;obtain⟨d0,H⟩:=af (gy s i);rw[H] at p;obtain⟨J,hJ⟩:=aC (E+bZ bM (s.data.toList.drop E));have aq:J<=s.size:=by
  have h1:=qZ bM (s.data.toList.drop E);rw[List.length_drop,aY] at h1;omega
 obtain⟨T,hT⟩:=af (gy s E);have HJ:=qh hJ;have S:=qh hT;have j:w.cell? ⟨g,0,none⟩=some (aR s):=p.o.cell 0;have R:w.cell? ⟨g,1,none⟩=some (aL aM (A:Nat)):=p.o.cell 1;have K:w.cell? ⟨g,2,none⟩=some (aR u):=p.o.cell 2;have O:((A:Nat):Int)+(u.size:Nat)=(E:Nat):=by omega
 have ab:IntKind.i64.wrap (((A:Nat):Int)+(u.size:Nat))=(E:Nat):=by rw[O];exact IntWalk.i64_in _ (by omega)
 clear hJ hT H hA hu z h hE;go_enter Tryz.func254,Tryz.ntmps254;go_upto_region 0 with (fail);go_quiet (fail);obtain⟨W,U⟩:=aC (w.drewN nq);have F:=qh (show Kp g w W by rw[U];exact TR (Bj g w) nq);have y:=qh (show ah W g 346 #[aR s,aL aM (A:Nat),aR u,a2 d0] by rw[U];exact p.o.drewN nq);rw[<- U];clear j R K U O ab;have j:W.cell? ⟨g,0,none⟩=some (aR s):=y.o.cell 0;have z3:W.frozen? ⟨g,3,none⟩=false:=y.o.frozen 3;have c3:W.cell? ⟨g,3,none⟩=some (a2 d0):=y.o.cell 3;go_wp2_with fail
 go_loop [3] (λ x=>∃ n:Nat,E<=n/\n<=s.size/\x = aL aM n/\Hid (J=n+bZ bM (s.data.toList.drop n))) (λ x=>s.size - (intOf x).toNat)
 case atStart=>exact⟨E,a4 _,d.2,rfl,HJ⟩
 case round =>
  obtain⟨n,al,hn,rfl,HR⟩:=hrel;by_cases hlt:n<s.size
  .have aW:=qh hlt;by_cases h32:s[n].toNat=32
   .have HG:=qh (mQ hlt (show bM s[n]=true from decide_eq_true ((toNat_eq s[n] 32 (by decide)).2 h32)) HR.o);have b1:((s[n].toNat:Int) == 32)=true:=by simp;omega
    clear h32;go_wp2_with fail
    go_round
    case rel=>exact⟨n+1,by omega,aW.o,by go_num,HG⟩
    case measure =>
     have:=aW.o;simp[intOf];omega
   .have D:=oG hlt (show bM s[n]=false from decide_eq_false (λ e=>h32 ((toNat_eq s[n] 32 (by decide)).1 e))) HR.o;have b1:((s[n].toNat:Int) == 32)=false:=by simp;omega
    obtain⟨f,P,B⟩:=O6 HJ.o (by rw[D];exact hlt);subst D;have D9:=qh (S.o.symm.trans B);have I:=qh (a6 f P);clear h32 f P B;go_upto_region 4 with (fail);go_cut [3] (λ x wc=>x = aL aM (J:Nat)/\wc=W.setCell ⟨g,3,none⟩ (a2 T))
    case first =>
     by_cases hJE:J=E
     .subst hJE;have t:(((J:Nat):Int) == ((J:Nat):Int))=true:=by simp
      by_cases hE0:0<J
      .have X:J - 1<s.size:=by omega
       obtain⟨b1,q⟩:=af (fC s[J - 1]);obtain⟨b2,r⟩:=af (fC (s[J]'hlt));have o:=qh (show T=(b1 && b2) by rw[D9.o,lS X,lS hlt,q,r,decide_eq_true hE0];simp);have l:=qh (show Calls Tryz.prog 57 #[.int .u8 (s[J - 1].toNat:Nat)] W λ e b=>e = a3 (a2 b1)/\W=b from by
        exact (jo s[J - 1] W).mono λ e b ⟨he,hw⟩=>⟨he.trans (congrArg (λ x=>ba (a2 x)) q),hw⟩)
       have C:=qh (show Calls Tryz.prog 57 #[.int .u8 ((s[J]'hlt).toNat:Nat)] W λ e b=>e = a3 (a2 b2)/\W=b from by
        exact (jo (s[J]'hlt) W).mono λ e b ⟨he,hw⟩=>⟨he.trans (congrArg (λ x=>ba (a2 x)) r),hw⟩)
       have L:((J:Nat):Int) - 1=((J - 1:Nat):Int):=by omega
       have an:IntKind.i64.wrap (((J:Nat):Int) - 1)=((J - 1:Nat):Int):=by rw[L];exact IntWalk.i64_in _ (by omega)
       have ac:(0:Int)<((J:Nat):Int):=by omega
       clear q r L;cases b1
       .go_wp2_with (go_at_call 57;(with_reducible refine l.o.mono ?_);rintro e G ⟨rfl,rfl⟩)
        go_meet
        exact⟨rfl,by rw[o.o];rfl⟩
       .cases b2
        .go_wp2_with (first | (go_at_call 57;(with_reducible refine l.o.mono ?_);rintro e G ⟨rfl,rfl⟩) | (go_at_call 57;(with_reducible refine C.o.mono ?_);rintro e G ⟨rfl,rfl⟩))
         go_meet
         exact⟨rfl,by rw[o.o];rfl⟩
        .go_wp2_with (first | (go_at_call 57;(with_reducible refine l.o.mono ?_);rintro e G ⟨rfl,rfl⟩) | (go_at_call 57;(with_reducible refine C.o.mono ?_);rintro e G ⟨rfl,rfl⟩))
         go_meet
         exact⟨rfl,by rw[o.o];rfl⟩
      .have o:=qh (show T=false by rw[D9.o,decide_eq_false hE0];simp);have ad:¬ (0:Int)<((J:Nat):Int):=by omega
       go_wp2_with fail
       go_meet
       exact⟨rfl,by rw[o.o]⟩
     .have o:=qh (show T=false by rw[D9.o,decide_eq_false hJE];simp);have t:(((J:Nat):Int) == ((E:Nat):Int))=false:=by simp;omega
      have aa:(J == E)=false:=by simp;omega
      go_wp2_with fail
      go_meet
      exact⟨rfl,by rw[o.o]⟩
    case rest =>
    obtain⟨rfl,rfl⟩:=hcut;have v:=acr y.o (a2 T);obtain⟨c,k⟩:=aC (W.setCell ⟨g,3,none⟩ (a2 T));have nS:=qh (show Kp g w c by rw[k];exact F.o.set 3 _);rw[<- k] at v;have a:=qh v;rw[<- k];clear v k j z3 c3;have j:c.cell? ⟨g,0,none⟩=some (aR s):=a.o.cell 0;have R:c.cell? ⟨g,1,none⟩=some (aL aM (A:Nat)):=a.o.cell 1;have K:c.cell? ⟨g,2,none⟩=some (aR u):=a.o.cell 2;have z1:c.frozen? ⟨g,1,none⟩=false:=a.o.frozen 1;have Z:c.frozen? ⟨g,2,none⟩=false:=a.o.frozen 2;have hL:=zq (s.data.toList.drop J);rw[List.length_drop,aY] at hL;obtain⟨N,Y⟩:=af (J+dG (s.data.toList.drop J));have HN:=qh Y;have ak:(0:Int)<=((J:Nat):Int):=by omega
    have ae:((J:Nat):Int)<=((N:Nat):Int):=by omega
    have ar:((N:Nat):Int)<=((s.size:Nat):Int):=by omega
    have ap:J<=N:=by omega
    have am:N<=s.size:=by omega
    have VK:((J:Nat):Int)<((s.size:Nat):Int):=by omega
    have GK:=qh (λ (w':World) (hc:w'.cell? ⟨g,0,none⟩=some (aR s))=>(show Calls Tryz.prog 269 #[a1 (some ⟨g,0,none⟩),aL aM (J:Nat)] w' λ e b=>e = a3 (aL aM (N:Nat))/\w'=b from by
     have h:=D8 g s J w' hc hlt hs
     rwa [Y] at h))
    clear hL Y;go_upto_region 7 with (fail);obtain⟨M,Q⟩:=aC ((c.setCell ⟨g,1,none⟩ (aL aM (J:Nat))).setCell ⟨g,2,none⟩ (aR ⟨#[]⟩));have V:=qh (show ah M g 346 #[aR s,aL aM (J:Nat),aR ⟨#[]⟩,a2 T] by rw[Q];exact VJ (acs a.o _) _);have Em:=qh (show Kp g w M by rw[Q];exact (nS.o.set 1 _).set 2 _);rw[<- Q];clear Q j R K z1 Z;have j:M.cell? ⟨g,0,none⟩=some (aR s):=V.o.cell 0;have K:M.cell? ⟨g,2,none⟩=some (aR ⟨#[]⟩):=V.o.cell 2;have Z:M.frozen? ⟨g,2,none⟩=false:=V.o.frozen 2;go_region_with (go_at_call 269;(with_reducible refine (GK.o _ (by simpa using j)).mono ?_);rintro e G ⟨rfl,rfl⟩)
    all_goals
     go_wp2_with fail;go_end0;refine⟨rfl,⟨?_,d.2,hs⟩,(Em.o.set 2 _).trans (Kp.of (Below.refl _ _).drew)⟩;rw[I.o.1,I.o.2,S.o,<- Ro,HN.o];exact (VJ V.o _).drew
  .have D:=qK hlt HR.o;obtain⟨f,P,B⟩:=O7 HJ.o (by rw[D];exact hlt);have m:n=s.size:=by omega
   subst D;have WQ:=qh (S.o.symm.trans B);have I:=qh (a6 (f.trans m.symm) P);have ao:=qh m;have VK:¬ ((J:Nat):Int)<((s.size:Nat):Int):=by omega
   clear f P B m;go_upto_region 4 with (fail);go_cut [3] (λ x wc=>x = aL aM (J:Nat)/\wc=W.setCell ⟨g,3,none⟩ (a2 T))
   case first =>
    by_cases hJE:J=E
    .subst hJE;have t:(((J:Nat):Int) == ((J:Nat):Int))=true:=by simp
     by_cases hE0:0<J
     .have ac:(0:Int)<((J:Nat):Int):=by omega
      go_wp2_with fail
      go_meet
      exact⟨rfl,by rw[WQ.o]⟩
     .have ad:¬ (0:Int)<((J:Nat):Int):=by omega
      go_wp2_with fail
      go_meet
      exact⟨rfl,by rw[WQ.o]⟩
    .have t:(((J:Nat):Int) == ((E:Nat):Int))=false:=by simp;omega
     have aa:(J == E)=false:=by simp;omega
     go_wp2_with fail
     go_meet
     exact⟨rfl,by rw[WQ.o]⟩
   case rest =>
   obtain⟨rfl,rfl⟩:=hcut;have v:=acr y.o (a2 T);obtain⟨c,k⟩:=aC (W.setCell ⟨g,3,none⟩ (a2 T));have nS:=qh (show Kp g w c by rw[k];exact F.o.set 3 _);rw[<- k] at v;have a:=qh v;rw[<- k];clear v k j z3 c3;have j:c.cell? ⟨g,0,none⟩=some (aR s):=a.o.cell 0;have R:c.cell? ⟨g,1,none⟩=some (aL aM (A:Nat)):=a.o.cell 1;have K:c.cell? ⟨g,2,none⟩=some (aR u):=a.o.cell 2;have z1:c.frozen? ⟨g,1,none⟩=false:=a.o.frozen 1;have Z:c.frozen? ⟨g,2,none⟩=false:=a.o.frozen 2;go_wp2_with fail;go_end0;refine⟨rfl,⟨?_,d.2,hs⟩,(nS.o.set 1 _).set 2 _⟩;rw[I.o.1,I.o.2,S.o];exact VJ (acs a.o _) _
theorem take_any (g:Nat) (s:ByteArray) (i:Nat) (w:World) (h:aT w g s i) (word:List UInt8) (l:word≠[]) :
  Calls Tryz.prog 323 #[a1 (some ⟨g,0,none⟩),aR (tb word)] w λ e w'=>if ni (wordsOf s.data.toList i) word=true then e = a3 (.tuple #[])/\aT w' g s (aS s i+(aO s i).length)/\Kp g w w' else e=JU (aS s i)/\w=w':=by
 obtain⟨b,d⟩:=af (ni (wordsOf s.data.toList i) word);have c:=qh (xI g s i w h word l);have j:=qh (next_any g s i w h);have HW:=qh (iD g s i w h);rw[d] at c ⊢;clear d;cases b
 .go_enter Tryz.func323,Tryz.ntmps323;go_wp2_with (first | (go_at_call 289;(with_reducible refine c.o.mono ?_);rintro e a ⟨rfl,rfl⟩) | (go_at_call 256;(with_reducible refine HW.o.mono ?_);rintro e a ⟨rfl,rfl⟩));exact⟨rfl,rfl,rfl⟩
 .go_enter Tryz.func323,Tryz.ntmps323;go_wp2_with (first | (go_at_call 289;(with_reducible refine c.o.mono ?_);rintro e a ⟨rfl,rfl⟩) | (go_at_call 254;(with_reducible refine j.o.mono ?_);rintro e a ⟨rfl,k,f⟩));go_end0;exact⟨rfl,k,f⟩
theorem iI (o:Int) (A:Option Addr) (n:Nat) (c:Nat) (w:World) :
  IE 290 #[aL aM o,a0 A n c] w (.agg #[aL aM 4,aL aM o,aR ⟨#[]⟩,aL aM 0,aL aM 0,aR ⟨#[]⟩,a0 none 0 0,a0 A n c]):=by
 go_enter Tryz.func290,Tryz.ntmps290;go_wp2;exact bodyPost_ret (v:=.agg #[aL aM 4,aL aM o,aR ⟨#[]⟩,aL aM 0,aL aM 0,aR ⟨#[]⟩,a0 none 0 0,a0 A n c]) (by simp[results,Tryz.results290,go_sem]) rfl ⟨rfl,(Below.refl _ w).alloc (a4 _) _⟩
theorem uU (k m:Int) (s:ByteArray) (A:Option Addr) (n c:Nat) (w:World) :
  IE 321 #[.agg #[aL aM k,aL aM m,aR s,a0 A n c]] w (.agg #[aL aM 1,aL aM 0,aR ⟨#[]⟩,aL aM k,aL aM m,aR s,a0 A n c,a0 none 0 0]):=by
 go_enter Tryz.func321,Tryz.ntmps321;go_wp2;exact bodyPost_ret (v:=.agg #[aL aM 1,aL aM 0,aR ⟨#[]⟩,aL aM k,aL aM m,aR s,a0 A n c,a0 none 0 0]) (by simp[results,Tryz.results321,go_sem]) rfl ⟨rfl,((Below.refl _ w).alloc (a4 _) _).alloc (by simp) _⟩
def TM (w:World) (g:Nat):Prop:=∃ w0:World,Tab w0/\Mx w0/\w0.heap.size<=g/\IY w0 w
theorem TM.kp {w w':World} {g:Nat} (h:TM w g) (f:Kp g w w'):TM w' g:=by
 obtain⟨d,c,e,a,b⟩:=h;exact⟨d,c,e,a,b.trans (f.below a b.size)⟩
theorem TM.tab {w:World} {g:Nat} (h:TM w g):Tab w/\Mx w:=by
 obtain⟨d,b,c,e,a⟩:=h;exact⟨b.below a,c.below a⟩
def fH (F:FuncId) (nt:NT) (s:ByteArray) (L:List Tok):Prop:=∀ g i w,aT w g s i->TM w g->wordsOf s.data.toList i=L->Calls Tryz.prog F #[a1 (some ⟨g,0,none⟩)] w λ e w'=>wG w g s (Pz s.data.toList.length nt [] L) e w'
theorem aT.kp {w w':World} {g i:Nat} {s:ByteArray} (h:aT w g s i) (a:w'.heap[g]?=w.heap[g]?):aT w' g s i:=⟨by (try unfold ZB);unfold ah;rw[a];exact h.b,h.i,h.s⟩
theorem aT.alloc {w:World} {g i:Nat} {s:ByteArray} (h:aT w g s i) (o:Obj):aT (w.alloc o) g s i:=⟨h.b.alloc o,h.i,h.s⟩
theorem aT.below {w w':World} {g i:Nat} {s:ByteArray} (h:aT w g s i) (a:IY w w'):aT w' g s i:=⟨h.b.below a h.b.lt,h.i,h.s⟩
theorem Rt {w w':World} {B size n g:Nat} {e:TypeId} {v:Value} {xs:List Value} (h:w.ownsRow B e size v n xs) (k:Kp g w w') (l:g<B):w'.ownsRow B e size v n xs:=by
 refine⟨h.1,h.2.imp id ?_⟩;rintro ⟨a,d,b,f,i,j,e3⟩;have c:a<w.heap.size:=(h.lt a (by rw[f];rfl)).2;exact⟨a,d,b,f,i,by rw[k.block a c (λ e=>by injection e with e;omega)];exact j,e3⟩
theorem EN {w:World} {b B size:Nat} {e:TypeId} {cs:List Value} (h:ah w b e cs.toArray) (c:B<=b) (a:cs.length=size):w.ownsRow B e size (a0 (some ⟨b,0,none⟩) 1 1) 1 cs:=
 ⟨by rw[a,bb],.inr ⟨b,1,cs.toArray,rfl,c,h,a4 _,by unfold maxLen;omega,by simp[a],by rw[bb,<- a];simp⟩⟩
theorem Bl {w:World} {p:Nat->Prop} {B:Nat} {e:Ex} {cs:List Value} (h:dD w p B e cs):cs.length=8:=by
 cases h;rfl
theorem TS:∀ (css:List (List Value)) (_:∀ c∈css,c.length=8) (i:Nat) (h:i<css.length),(css.flatten.drop (i*8)).take 8=css[i]
 | c :: r,hl,0,_=>by
  have:=hl c (List.mem_cons_self ..);simp[<- this]
 | c :: r,hl,i+1,h=>by
  have b:=hl c (List.mem_cons_self ..);rw[List.flatten_cons,show (i+1)*8=c.length+i*8 by omega,<- List.drop_drop,List.drop_left];exact TS r (λ x a=>hl x (List.mem_cons_of_mem _ a)) i (by simpa using h)
structure jh (w:World) (p:Nat->Prop) (es:List Ex) (css:List (List Value)):Prop where
 len:es.length=css.length
 ex:∀ j (h:j<es.length) (h':j<css.length),dD w p w.heap.size es[j] css[j]
theorem jh.keep {w w':World} {p:Nat->Prop} {c:List Ex} {css:List (List Value)} (h:jh w p c css) (d:dN p w w'):jh w' p c css:=⟨h.len,λ j a b=>((h.ex j a b).keep d).up d.1⟩
theorem jh.imp {w:World} {p q:Nat->Prop} {d:List Ex} {css:List (List Value)} (h:jh w p d css) (c:∀ k,p k->k<w.heap.size->q k):jh w q d css:=⟨h.len,λ j a b=>(h.ex j a b).imp c⟩
theorem jh.cells {w:World} {p:Nat->Prop} {b:List Ex} {css:List (List Value)} (h:jh w p b css):∀ c∈css,c.length=8:=λ c d=>by
 obtain⟨j,a,rfl⟩:=List.mem_iff_getElem.1 d;exact Bl (h.ex j (by rw[h.len];exact a) a)
theorem jh.snoc {w:World} {p:Nat->Prop} {c:List Ex} {css:List (List Value)} (h:jh w p c css) {e:Ex} {cs:List Value} (f:dD w p w.heap.size e cs):jh w p (c ++ [e]) (css ++ [cs]):=by
 refine⟨by simp[h.len],λ j a b=>?_⟩;by_cases hj:j<c.length
 .rw[List.getElem_append_left hj,List.getElem_append_left (by rw[<- h.len];exact hj)];exact h.ex j hj _
 .have d:j=c.length:=by simp at a;omega
  subst d;rw[List.getElem_append_right (a4 _),List.getElem_append_right (by rw[h.len];exact a4 _)];simpa [h.len] using f
theorem jh.one {w:World} {p:Nat->Prop} {e:Ex} {cs:List Value} (b:dD w p w.heap.size e cs):jh w p [e] [cs]:=by
 have c:jh w p [] []:=⟨rfl,λ j a=>by simp at a⟩;exact c.snoc b
theorem acv {w:World} {L B:Nat} {a:List Ex} {css:List (List Value)} {A:Option Addr} {c:Nat} (o:Int) (h:jh w (λ b=>L<=b) a css) (s:L<=B) (g:w.ownsRow B 67 8 (a0 A a.length c) a.length css.flatten) (k:a.length<=maxLen) :
  dD w (λ b=>L<=b) w.heap.size (kJ o a) [aL aM 4,aL aM o,aR ⟨#[]⟩,aL aM 0,aL aM 0,aR ⟨#[]⟩,a0 none 0 0,a0 A a.length c]:=by
 have m:∀ ad,A=some ad->L<=ad.block:=λ ad e=>by
  subst e;rcases g.2 with ⟨q,-⟩ | ⟨l,p,n,f,r,-⟩
  .cases q
  .injection f with f _ _;injection f with f;subst f;show L<=l;omega
 refine dD.mk (e:=kJ o a) (A:=none) (c:=0) (A':=A) (c':=c) (cs:=css.flatten) (show 0<=maxLen from a7 _) (show 0<=maxLen from a7 _) (show 0<=maxLen from a7 _) k ⟨Reads.none_,λ _ ad e=>by cases e⟩ ⟨Reads.ig g,λ _=>m⟩ (λ i j=>?_);have d:i<css.length:=by rw[<- h.len];exact j
 rw[TS css h.cells i d];exact h.ex i j d
theorem Zd:(Tryz.prog.info? 67).map (λ i=>(i.zero,i.size,i.bytes))=some (some (.agg #[.int .i64 0,.int .i64 0,.string ByteArray.empty,.int .i64 0,.int .i64 0,.string ByteArray.empty,.slice none 0 0,.slice none 0 0]),8,112):=by kernel_rfl
end Go.Proofs.YtcnagconagpkcaaGreatDoor
