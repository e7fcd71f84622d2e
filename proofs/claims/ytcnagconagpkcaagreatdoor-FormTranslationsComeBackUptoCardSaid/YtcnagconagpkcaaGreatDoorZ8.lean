/- Lemmas. -/
import Derived.Test.YtcnagconagpkcaaGreatDoorZ7
import Derived.Lib.ItoaLen
import Derived.Test.YtcnagconagpkcaaGreatDoorZ6
open Go.Value renaming int->av, string->ax, slice->ay, pointer->aD, bool->aL, string->a7
open Go.IntKind renaming i64->aw
open Go.Obj renaming cells->aE
open Nat renaming le_refl->aM, le_trans->a1, zero_le->a8, lt_of_lt_of_le->a9, le_succ->ba
open List renaming length_cons->aR, length_append->aZ, length_nil->a0, getElem_mem->a2, getD_eq_getElem?_getD->a4, getElem?_map->a6, length_reverse->bb, length_singleton->bc, mem_of_getElem?->bd, take_succ_eq_append_getElem->be, map_append->bf, map_singleton->bg, map_map->bh, map_id->bi, any_eq_true->bj
open And renaming intro->a3
open Go.ByteArray renaming toList_eq->a5
set_option maxHeartbeats 4000000
set_option maxRecDepth 100000
namespace Go.Proofs.YtcnagconagpkcaaGreatDoor
open Tryz
open Tryz renaming prog->lM
section
open Go.RowKit Dig Vtx
theorem vG (s o n:ByteArray) (w:World) (h:s.size<=2000000) (b:1<=o.size) (g:n.size<=2) (a:Mx w) :
  Calls lM 259 #[ax s,ax o,ax n] w λ e w'=>(∃ t:ByteArray,e = .returned (ax t)/\t.data.toList=Lib.replaceAll s.data.toList o.data.toList n.data.toList)/\DD w w':=by
 obtain⟨m,a⟩:=a;have d:=Lib.countB_le o b s.size s (aM _);have:Lib.countB s o*n.size<=s.size*2:=Nat.mul_le_mul d g;exact (Tryz.strings_ReplaceAll s o n m w (by omega) a b (by omega)).mono λ _ _ ⟨c,f⟩=>⟨⟨_,c,rfl⟩,f⟩
theorem Td (s:List UInt8):(Lib.replaceAll s [39] [39,39]).length<=2*s.length:=by
 rw[kE (by simp),CB]
 induction s with
 | nil=>simp[subst1]
 | cons b r ih =>
  have e:subst1 39 [39,39] (b :: r)=(if b=39 then [39,39] else [b]) ++ subst1 39 [39,39] r:=by simp[subst1]
  rw[e,aZ,aR];split <;> simp <;> omega
theorem NU (k n:Int) (s:ByteArray) (l:List Int) (S:List UInt8) (A:Option Addr) (c B1:Nat) (w:World) (X:s.data.toList=S) (hq:Xf k n S l) (hl:l.length<=1000) (hs:s.size<=1000)
  (W:Reads w B1 1 A l.length (bK aw l)) (E:B1<=w.heap.size) (i:Tab w) (T:Mx w) :
  Calls lM 236 #[.agg #[av aw k,av aw n,ax s,ay A l.length c]] w λ e w'=>(∃ t:ByteArray,e = .returned (ax t)/\t.data.toList=showT k n S l)/\DD w w':=by
 have z:=qh i;have HM:=qh T;have HX:=qh (W.more E);have U:=qh X;clear i T W X E;have G:∀ o:Obj,DD w (w.alloc o):=λ o=>(Below.refl _ _).alloc (aM _) _;have b:=qh G;clear G;cases hq with
 | none_ =>
  go_enter func236,ntmps236;go_wp2;go_ret;exact⟨⟨_,rfl,rfl⟩,b.o _⟩
 | word j q =>
  have i1:∀ w,(Instr.index 348 (.agg #[ax ⟨#[]⟩,ax ⟨#[100,111,110,116,107,110,111,119]⟩,ax ⟨#[114,101,102,117,115,101,100]⟩,ax ⟨#[110,111,97,110,115,119,101,114]⟩]) (av aw 1)).run lM w = .ok (ax ⟨#[100,111,110,116,107,110,111,119]⟩) w:=λ _=>by kernel_rfl
  have i2:∀ w,(Instr.index 348 (.agg #[ax ⟨#[]⟩,ax ⟨#[100,111,110,116,107,110,111,119]⟩,ax ⟨#[114,101,102,117,115,101,100]⟩,ax ⟨#[110,111,97,110,115,119,101,114]⟩]) (av aw 2)).run lM w = .ok (ax ⟨#[114,101,102,117,115,101,100]⟩) w:=λ _=>by kernel_rfl
  have i3:∀ w,(Instr.index 348 (.agg #[ax ⟨#[]⟩,ax ⟨#[100,111,110,116,107,110,111,119]⟩,ax ⟨#[114,101,102,117,115,101,100]⟩,ax ⟨#[110,111,97,110,115,119,101,114]⟩]) (av aw 3)).run lM w = .ok (ax ⟨#[110,111,97,110,115,119,101,114]⟩) w:=λ _=>by kernel_rfl
  obtain rfl | rfl | rfl:n=1\/n=2\/n=3:=by omega
  all_goals
   go_enter func236,ntmps236;go_wp2;go_ret;exact⟨⟨_,rfl,rfl⟩,b.o _⟩
 | num j q =>
  have HR:=qh (λ w'=>Ff n w' j q);go_enter func236,ntmps236;go_wp2_with fail;refine (HR.o _ (z.o.below (b.o _))).mono ?_;rintro e v ⟨⟨t,rfl,f⟩,g⟩;have a:=(b.o _).trans (g.mono (b.o _).size);have p:=qh f;clear f g;go_wp2;go_ret;exact⟨⟨_,rfl,p.o⟩,a⟩
 | text S =>
  go_enter func236,ntmps236;go_wp2_with fail;refine (vG s ⟨#[39]⟩ ⟨#[39,39]⟩ _ (by omega) (aM 1) (aM 2) (HM.o.below (b.o _))).mono ?_;rintro e v ⟨⟨t,rfl,f⟩,g⟩;rw[U.o] at f;have a:=(b.o _).trans (g.mono (b.o _).size);have p:=qh (show t.data.toList=Lib.replaceAll S [39] [39,39] from f);have H:t.size<=2000:=by
   rw[nI p.o];have j:=Td S;have q:S.length=s.size:=by rw[<- U.o];rfl
   omega
  clear f g;go_wp2;go_ret;exact⟨⟨_,rfl,by rw[eH,eH,p.o];rfl⟩,a⟩
 | code j q =>
  go_enter func236,ntmps236;go_wp2_with fail;refine (kC n _ (by omega) (by omega) (z.o.below (b.o _))).mono ?_;rintro e v ⟨⟨t,rfl,f⟩,g⟩;have a:=(b.o _).trans (g.mono (b.o _).size);have p:=qh f;have H:t.size<=20:=by
   rw[nI f];obtain⟨m,rfl⟩:∃ m:Nat,n=m:=⟨n.toNat,by omega⟩;rw[ku];have:=gI 2 m (by omega);omega
  clear f g;go_wp2;go_ret;exact⟨⟨_,rfl,by rw[eH,p.o];rfl⟩,a⟩
 | set h =>
  have HC:=qh h;clear h;go_enter func236,ntmps236;go_wp2_with fail;refine (NR A l c w.heap.size _ hl HC.o (HX.o.below (b.o _)) (b.o _).size (z.o.below (b.o _))).mono ?_;rintro e v ⟨⟨t,rfl,f⟩,g⟩;have a:=(b.o _).trans (g.mono (b.o _).size);have p:=qh f;clear f g;go_wp2;go_ret;exact⟨⟨_,rfl,p.o⟩,a⟩
 | day j q =>
  obtain⟨y,m,d,Q,R,V,hy,P,hd,K,hn⟩:=IG j q;have B:=qh (a3 Q (a3 R V));have J:=qh (a3 (sK (w:=4) (n:=y) (gI 3 y hy)) (a3 (sK (w:=2) (n:=m) (gI 1 m P)) (sK (w:=2) (n:=d) (gI 1 d hd))));have I:=qh (λ w'=>Ve n w' j q);clear Q R V K hn;go_enter func236,ntmps236;go_wp2_with fail;refine (I.o _).mono ?_;rw[B.o.1,B.o.2.1,B.o.2.2];rintro e v ⟨rfl,rfl⟩;have M:=b.o (aE #[av aw 6,av aw n,ax s,ay A ([]:List Int).length c] 65 (0,0));go_wp2_with fail;refine (tJ y 4 _ (by omega) (by omega) (by omega) (z.o.below (b.o _))).mono ?_;rintro e v ⟨⟨t1,rfl,r⟩,C⟩;have a:=(b.o _).trans (C.mono (b.o _).size);have O:=qh r;have ab:t1.size<=4:=by rw[nI r,J.o.1];exact aM _
  clear r C M;go_wp2_with fail;refine (tJ m 2 v (by omega) (by omega) (by omega) (z.o.below a)).mono ?_;rintro e Y ⟨⟨Z,rfl,x⟩,F⟩;have a:=a.trans (F.mono a.size);have N:=qh x;have aa:Z.size<=2:=by rw[nI x,J.o.2.1];exact aM _
  clear x F;go_wp2_with fail;refine (tJ d 2 Y (by omega) (by omega) (by omega) (z.o.below a)).mono ?_;rintro e w3 ⟨⟨t3,rfl,u⟩,D⟩;have a:=a.trans (D.mono a.size);have L:=qh u;have ac:t3.size<=2:=by rw[nI u,J.o.2.2];exact aM _
  clear u D;go_wp2;go_ret;refine⟨⟨_,rfl,?_⟩,a⟩;show _=xX n;unfold xX;rw[B.o.1,B.o.2.1,B.o.2.2];simp only[eH,O.o,N.o,L.o];rfl
 | bool j q =>
  obtain rfl | rfl:n=0\/n=1:=by omega
  all_goals
   go_enter func236,ntmps236;go_wp2_with fail;refine (Tryz.strconv_FormatBool _ _).mono ?_;rintro e v ⟨rfl,rfl⟩;go_wp2;go_ret;exact⟨⟨_,rfl,by decide +kernel⟩,b.o _⟩
theorem x8 {x:Val} (h:df x=0):Xf x.k x.n x.s.data.toList x.l/\x.l.length<=40/\x.s.size<=200:=by
 unfold df at h;by_cases h1:aW x.k 0 7=true
 .rw[if_pos h1] at h;cases h
 rw[if_neg h1] at h;by_cases h2:rV x=true
 .rw[if_pos h2] at h;cases h
 rw[if_neg h2] at h;by_cases h3:aW x.n (Ec x.k) (Ed x.k)=true
 .rw[if_pos h3] at h;cases h
 rw[if_neg h3] at h;by_cases h4:200<x.s.size\/40<x.l.length
 .rw[if_pos h4] at h;cases h
 rw[if_neg h4] at h;by_cases h5:Ef x.s=true
 .rw[if_pos h5] at h;cases h
 rw[if_neg h5] at h;by_cases h6:x.l.any mW=true
 .rw[if_pos h6] at h;cases h
 clear h h5;have a:∀ c∈x.l,1<=c/\c<=999:=by
  intro c a;rw[Bool.not_eq_true,List.any_eq_false] at h6;have:=h6 c a;simp only[mW,aW,Bool.or_eq_true,decide_eq_true_eq,not_or] at this;omega
 simp only[not_or] at h4;refine⟨?_,by omega,by omega⟩;simp only[aW,Bool.or_eq_true,decide_eq_true_eq,not_or] at h1 h3;obtain⟨k,n,s,l⟩:=x;simp only[rV] at h2;simp only at h1 h3 a;rw[a5] at h2;show Xf k n s.data.toList l;generalize s.data.toList=S at h2;clear h4 h6;have b:k=0\/k=1\/k=2\/k=3\/k=4\/k=5\/k=6\/k=7:=by omega
 rcases b with rfl | rfl | rfl | rfl | rfl | rfl | rfl | rfl
 all_goals simp[Xp] at h2
 .obtain⟨rfl,rfl,rfl⟩:=h2;exact .none_
 .obtain⟨rfl,rfl⟩:=h2;simp[Ec,Ed] at h3;exact .word (by omega) (by omega)
 .obtain⟨rfl,rfl⟩:=h2;simp[Ec,Ed] at h3;exact .num (by omega) (by omega)
 .obtain⟨rfl,rfl⟩:=h2;exact .text _
 .obtain⟨rfl,rfl⟩:=h2;simp[Ec,Ed] at h3;exact .code (by omega) (by omega)
 .obtain⟨rfl,rfl⟩:=h2;exact .set a
 .obtain⟨rfl,rfl⟩:=h2;simp[Ec,Ed] at h3;exact .day (by omega) (by omega)
 .obtain⟨rfl,rfl⟩:=h2;simp[Ec,Ed] at h3;exact .bool (by omega) (by omega)
end
section
open Vtx
theorem JV {n:Int} (b : -9223372036854775808<=n) (a:n<=9223372036854775807):(Lib.itoa n).length<=21:=Lib.itoa_length_le n b a
theorem DR (w:Nat) {n:Int} (b : -9223372036854775808<=n) (a:n<=9223372036854775807):(nR w n).length<=w+21:=by
 unfold nR;have:=JV b a;rw[aZ];simp only[Dig.zeros,List.length_replicate];omega
theorem acy (l:List UInt8) (c:UInt8):(Lib.trimRightB l c).length<=l.length:=by
 unfold Lib.trimRightB;rw[bb];have:=(List.dropWhile_suffix (p:=(· == c)) (l:=l.reverse)).length_le
 rwa [bb] at this
theorem acz {n:Int} (d : -999999999999999<=n) (b:n<=999999999999999):(pY n).length<=100:=by
 have e:0<=nD n/\nD n<=999999999999999:=by unfold nD;split <;> omega
 have a:=JV (n:=nD n / 10000) (by omega) (by omega);have f:(ja (nD n % 10000)).length<=25:=a1 (acy _ _) (DR 4 (by omega) (by omega));unfold pY;rw[aZ,aZ];have e3:(if n<0 then ([45]:List UInt8) else []).length<=1:=by split <;> simp
 have c:(if ja (nD n % 10000) = [] then [] else 46 :: ja (nD n % 10000)).length<=26:=by
  split
  .simp
  .rw[aR];omega
 omega
theorem Tf {v:Val} (h:df v=0):(showT v.k v.n v.s.data.toList v.l).length<=500:=by
 obtain⟨b,f,d⟩:=x8 h;have c:v.s.data.toList.length<=200:=by simpa using d
 generalize v.s.data.toList=S at b c;generalize v.k=k at b;generalize v.n=n at b;generalize v.l=l at b f;cases b with
 | none_=>decide
 | word h1 h2 =>
  show (XQ n).length<=500;unfold XQ;split
  .decide
  split <;> decide
 | num h1 h2=>exact a1 (acz h1 h2) (by decide)
 | text s =>
  show (Nj S).length<=500;unfold Nj;have:=Td S;rw[aZ,aR,bc];omega
 | code h1 h2 =>
  show (gV n).length<=500;unfold gV;have:=JV (n:=n) (by omega) (by omega);rw[aR];omega
 | set hc =>
  show (yR l).length<=500;unfold yR;have:=Bq l hc;rw[aZ,aR,bc];omega
 | day h1 h2 =>
  show (xX n).length<=500;have a:=Cal.Nc h1 h2;obtain⟨b1,b2⟩:=Cal.xW h1 h2 a.year.1 a.year.2;have e:=Cal.Eu (Cal.cy n) (Cal.cm n);have b3:=a.m1;have j:=a.m2;have m:=a.d1;have i:=a.d2;have g:=DR 4 (n:=Cal.cy n) (by omega) (by omega);have o:=DR 2 (n:=Cal.cm n) (by omega) (by omega);have e3:=DR 2 (n:=Cal.cd n) (by omega) (by omega);unfold xX;simp only[aZ,aR,a0];omega
 | bool h1 =>
  show (if n=1 then ql else lK).length<=500;split <;> decide
theorem acA {p:Prop} [Decidable p] {a b:List UInt8} {k:Nat} (d:a.length<=k) (c:b.length<=k):(if p then a else b).length<=k:=by split <;> assumption
theorem NV (op:Int):(dH op).length<=3:=by
 unfold dH
 iterate 13 refine acA (by decide) ?_
 decide
theorem Ti (op:Int):(uz op).length<=8:=by
 unfold uz;split
 .rename_i p a;have:∀ p∈uS,p.2.length<=8:=by decide
  exact this p (List.mem_of_find?_eq_some a)
 .decide
theorem Tj (op:Int):(jV op).length<=5:=by
 unfold jV;rw[a4];rcases h:JB[op.toNat]? with _ | l
 .decide
 .have:∀ p∈JB,p.length<=5:=by decide
  exact this l (bd h)
theorem x9 (b:Bool) (t:List UInt8):(rf b t).length<=t.length+2:=by
 unfold rf;split
 .simp
 .omega
theorem qN (c:Int):∀ {ar:List Ex},(∀ a∈ar,a.text.length+100<=1000*a.parts)->((insL c ar).map List.length).sum+98*ar.length<=1000*aJ ar/\∀ i,((insL c ar).getD i []).length<=1000*aJ ar+2
 | [],_=>by simp[insL,aJ]
 | a :: r,h=>by
  have d:=qN c (λ b e=>h b (List.mem_cons_of_mem _ e)) (ar:=r);have g:=h a (List.mem_cons_self ..);have f:=x9 (decide (gQ a<c)) a.text;rw[insL,aJ];refine⟨by simp only[List.map_cons,List.sum_cons,aR];omega,λ i=>?_⟩;cases i with
  | zero=>simp only[List.getD_cons_zero];omega
  | succ i =>
   have:=d.2 i;simp only[List.getD_cons_succ];omega
theorem ou (a:Int) (ar:List Ex):(insL a ar).length=ar.length:=by rw[rq];simp
theorem zh {s:ByteArray} (h:aP s.data.toList=true):s.data.toList.length<=16:=by
 unfold aP at h;simp only[Bool.and_eq_true,decide_eq_true_iff] at h;exact h.1.1.1.2
theorem rF {e:Ex} (h:jw e=0) (a:e.k=2\/e.k=3\/e.k=5):aP e.nm.data.toList=true:=by
 unfold jw Eg at h;by_cases c1:aW e.k 1 5=true
 .rw[if_pos c1] at h;exact absurd h (by decide)
 rw[if_neg c1,if_neg (by omega)] at h;by_cases c3:e.k=5/\aW e.op 1 6=true
 .rw[if_pos c3] at h;exact absurd h (by decide)
 rw[if_neg c3] at h;by_cases c4:dQ e.k e.op e.nm e.v e.ar.length=true
 .rw[if_pos c4] at h;exact absurd h (by decide)
 rw[if_neg c4,if_neg (by omega),if_neg (by omega)] at h;by_cases c5:aP e.nm.data.toList=true
 .exact c5
 .rw[if_neg c5] at h;exact absurd h (by decide)
theorem vH {e:Ex} (h:jw e=0) (a:e.k=1):df e.v=0:=by
 unfold jw Eg at h;by_cases c1:aW e.k 1 5=true
 .rw[if_pos c1] at h;exact absurd h (by decide)
 rw[if_neg c1,if_neg (by omega),if_neg (by omega)] at h;by_cases c4:dQ e.k e.op e.nm e.v e.ar.length=true
 .rw[if_pos c4] at h;exact absurd h (by decide)
 rw[if_neg c4,if_pos a] at h;split at h
 .exact absurd h (by decide)
 .exact h
theorem Tm (e:Ex):e.fault=0->e.text.length+100<=1000*e.parts:=by
 induction e using Ex.ind with
 | h e ih =>
  intro t;have g:=rY t;have P:=kJ g;have y:=vZ t;have c:=λ a h=>ih a h (y a h);rw[text_eq,parts_eq];by_cases k1:e.k=1
  .rw[if_pos k1];have:=Tf (vH g k1);omega
  rw[if_neg k1];by_cases k2:e.k=2
  .rw[if_pos k2];have:=zh (rF g (.inl k2));omega
  rw[if_neg k2];by_cases k3:e.k=3
  .rw[if_pos k3];have:=zh (rF g (.inr (.inl k3)));simp only[aZ,aR,a0];omega
  rw[if_neg k3];have v:=qN 0 c;by_cases k5:e.k=5
  .rw[if_pos k5];have p:=zh (rF g (.inr (.inr k5)));have d:=Tj e.op;have s:=v.2 0;simp only[aZ,aR,a0];omega
  rw[if_neg k5];have u:=Ak e.ar;split
  .have p:=(qN 2 c).1;have d:=ru (insL 2 e.ar) [32,111,114,32];rw[ou] at d;simp only[aR,a0] at d;omega
  split
  .have p:=(qN 3 c).1;have d:=ru (insL 3 e.ar) [32,97,110,100,32];rw[ou] at d;simp only[aR,a0] at d;omega
  have s:=(qN 3 c).2;have B:=(qN 5 c).2;have A:=(qN 6 c).2;have w:=(qN 7 c).2;have x:=NV e.op;have f:∀ (k m:Int),((insL k e.ar).getD 0 []).length+((insL m e.ar).getD 1 []).length<=1000*aJ e.ar+4:=by
   intro k m;have o:∀ (l:Int),∀ i,∀ a,e.ar[i]?=some a->((insL l e.ar).getD i []).length<=1000*a.parts+2:=λ l i a j=>by
    rw[rq,a4,a6,j];have:=x9 (decide (gQ a<l)) a.text;have:=c a (bd j);simp only[Option.map_some,Option.getD_some];omega
   have z:∀ (l:Int),∀ i,e.ar[i]?=none->((insL l e.ar).getD i []).length=0:=λ l i j=>by
    rw[rq,a4,a6,j];rfl
   match hr:e.ar with
   | []=>simp[insL]
   | [a] =>
    have n:=o k 0 a (by rw[hr];rfl);have q:=z m 1 (by rw[hr];rfl);rw[hr] at n q;simp only[aJ];omega
   | a :: b :: r =>
    have n:=o k 0 a (by rw[hr];rfl);have q:=o m 1 b (by rw[hr];rfl);rw[hr] at n q;simp only[aJ];omega
  split
  .have:=s 0;simp only[aZ,aR,a0];omega
  split
  .have:=f 5 5;simp only[aZ,aR,a0];omega
  split
  .have:=f 5 6;simp only[aZ,aR,a0];omega
  split
  .have:=f 6 7;simp only[aZ,aR,a0];omega
  split
  .split
   .have:=v.2 0;simp only[aZ,aR,a0];omega
   .have:=w 0;simp only[aZ,aR,a0];omega
  .have p:=(qN 1 c).1;have d:=ru (insL 1 e.ar) [44,32];have s:=Ti e.op;rw[ou] at d;simp only[aZ,aR,a0] at *;omega
end
open Go.RowKit
attribute [local go_sem ↓] Go.wp_at_zero Go.wp_at_succ
theorem ig (a b:List UInt8):tx a ++ tx b=tx (a ++ b):=by
 unfold tx;exact ByteArray.ext (by rw[ByteArray.data_append];simp)
theorem kG (l:List UInt8):(tx l).size=l.length:=by unfold tx;simp[ByteArray.size]
theorem DT (l:List UInt8):(tx l).data.toList=l:=by unfold tx;simp
theorem yf {w:World} {B:Nat} {ar:List Ex} {A':Option Addr} {cs:List Value} (c:Reads w B 8 A' ar.length cs) (b:∀ i (h:i<ar.length),bC w B ar[i] ((cs.drop (i*8)).take 8)) {i:Nat} (h:i<ar.length) :
  ∃ ad a,A'=some ad/\ad.block<B/\bC w B ar[i] a/\∀ j u,a[j]?=some u->w.cell? ((ad.add (i*8)).add j)=some u:=bC.arg (e:=.mk 0 0 ⟨#[]⟩ ⟨0,0,⟨#[]⟩,[]⟩ ar) c b h
theorem NW {t:ByteArray} {l:List UInt8} (h:t.data.toList=l):t=tx l:=by
 unfold tx;rw[<- h]
theorem oz (e:Ex) (B:Nat) (cs:List Value) (w:World) (l:bC w B e cs):CS 238 #[.agg cs.toArray] w (av aw (gQ e)):=by
 obtain⟨E,D,F,G,l,a,u⟩:=l;rename_i A1 c1 A2 c2 cs;clear l a u;obtain⟨r,a⟩:=af (gQ e);have y:=qh a;rw[a];show Calls lM 238 #[.agg (Ag e A1 c1 A2 e.ar.length c2)] w _;obtain⟨k,q⟩:=af (e.k);obtain⟨op,d⟩:=af (e.op);obtain⟨t,f⟩:=af (e.v.k);obtain⟨z,c⟩:=af (e.v.n);unfold Ag;rw[q,d,f,c];unfold gQ at a;rw[q,d,f,c] at a;clear q d f c y;by_cases k1:k=1
 .subst k1;by_cases k2:t=2
  .subst k2;by_cases k3:z<0
   .have b:r=7:=by rw[<- a];simp;try omega
    subst b;clear a;go_enter func238,ntmps238;go_wp2;go_ret;exact⟨aj rfl,(Below.refl _ _).alloc (aM _) _⟩
   .have b:r=8:=by rw[<- a,if_neg (by omega),if_pos (by decide)]
    subst b;clear a;go_enter func238,ntmps238;go_wp2;go_ret;exact⟨aj rfl,(Below.refl _ _).alloc (aM _) _⟩
  .have C:(t == 2)=false:=by simp;omega
   have b:r=8:=by rw[<- a,if_neg (by omega),if_pos (by decide)]
   subst b;clear a k2;go_enter func238,ntmps238;go_wp2;go_ret;exact⟨aj rfl,(Below.refl _ _).alloc (aM _) _⟩
 by_cases k4:k=4;rotate_left
 .have A:(k == 1)=false:=by simp;omega
  have x:(k != 4)=true:=by simp;omega
  have b:r=8:=by rw[<- a,if_neg (by omega),if_pos k4]
  subst b;clear a k1 k4;go_enter func238,ntmps238;go_wp2;go_ret;exact⟨aj rfl,(Below.refl _ _).alloc (aM _) _⟩
 subst k4;clear k1;rw[if_neg (by omega),if_neg (by decide)] at a;by_cases o3:op=3
 .subst o3;have b:r=1:=by rw[<- a];decide
  subst b;clear a;go_enter func238,ntmps238;go_wp2;go_ret;exact⟨aj rfl,(Below.refl _ _).alloc (aM _) _⟩
 by_cases o2:op=2
 .subst o2;have b:r=2:=by rw[<- a];decide
  subst b;clear a;go_enter func238,ntmps238;go_wp2;go_ret;exact⟨aj rfl,(Below.refl _ _).alloc (aM _) _⟩
 by_cases o1:op=1
 .subst o1;have b:r=3:=by rw[<- a];decide
  subst b;clear a;go_enter func238,ntmps238;go_wp2;go_ret;exact⟨aj rfl,(Below.refl _ _).alloc (aM _) _⟩
 rw[if_neg o3,if_neg o2,if_neg o1] at a;have i:(op == 3)=false:=by simp;omega
 have h:(op == 2)=false:=by simp;omega
 have g:(op == 1)=false:=by simp;omega
 clear o1 o2 o3;by_cases q1:4<=op;rotate_left
 .have j:(op == 15)=false:=by simp;omega
  have n:(op == 16)=false:=by simp;omega
  have s:(op == 17)=false:=by simp;omega
  have o:(op == 18)=false:=by simp;omega
  have m:(op == 19)=false:=by simp;omega
  have p:(op == 20)=false:=by simp;omega
  have b:r=8:=by rw[<- a,if_neg (by omega),if_neg (by omega),if_neg (by omega),if_neg (by omega)]
  subst b;clear a;go_enter func238,ntmps238;go_wp2;go_ret;exact⟨aj rfl,(Below.refl _ _).alloc (aM _) _⟩
 by_cases q2:op<=11
 .have b:r=4:=by rw[<- a,if_pos ⟨q1,q2⟩]
  subst b;clear a;go_enter func238,ntmps238;go_wp2;go_ret;exact⟨aj rfl,(Below.refl _ _).alloc (aM _) _⟩
 rw[if_neg (by omega)] at a;by_cases o15:op=15
 .subst o15;have b:r=5:=by rw[<- a];decide
  subst b;clear a g h i;go_enter func238,ntmps238;go_wp2;go_ret;exact⟨aj rfl,(Below.refl _ _).alloc (aM _) _⟩
 by_cases o16:op=16
 .subst o16;have b:r=5:=by rw[<- a];decide
  subst b;clear a g h i;go_enter func238,ntmps238;go_wp2;go_ret;exact⟨aj rfl,(Below.refl _ _).alloc (aM _) _⟩
 by_cases o17:op=17
 .subst o17;have b:r=6:=by rw[<- a];decide
  subst b;clear a g h i;go_enter func238,ntmps238;go_wp2;go_ret;exact⟨aj rfl,(Below.refl _ _).alloc (aM _) _⟩
 by_cases o18:op=18
 .subst o18;have b:r=6:=by rw[<- a];decide
  subst b;clear a g h i;go_enter func238,ntmps238;go_wp2;go_ret;exact⟨aj rfl,(Below.refl _ _).alloc (aM _) _⟩
 by_cases o19:op=19
 .subst o19;have b:r=6:=by rw[<- a];decide
  subst b;clear a g h i;go_enter func238,ntmps238;go_wp2;go_ret;exact⟨aj rfl,(Below.refl _ _).alloc (aM _) _⟩
 by_cases o20:op=20
 .subst o20;have b:r=7:=by rw[<- a];decide
  subst b;clear a g h i;go_enter func238,ntmps238;go_wp2;go_ret;exact⟨aj rfl,(Below.refl _ _).alloc (aM _) _⟩
 have j:(op == 15)=false:=by simp;omega
 have n:(op == 16)=false:=by simp;omega
 have s:(op == 17)=false:=by simp;omega
 have o:(op == 18)=false:=by simp;omega
 have m:(op == 19)=false:=by simp;omega
 have p:(op == 20)=false:=by simp;omega
 have b:r=8:=by rw[<- a,if_neg (by omega),if_neg (by omega),if_neg (by omega)]
 subst b;clear a o15 o16 o17 o18 o19 o20;go_enter func238,ntmps238;go_wp2;go_ret;exact⟨aj rfl,(Below.refl _ _).alloc (aM _) _⟩
def eu (F:FuncId) (e:Ex):Prop:=∀ (B:Nat) (cs:List Value) (w:World),bC w B e cs->B<=w.heap.size->Tab w->Mx w->CS F #[.agg cs.toArray] w (ax (tx (e.text)))
theorem acB {b:Bool} (t:List UInt8) (h:b=true):tx (rf b t)=tx [40] ++ tx t ++ tx [41]:=by rw[h,ig,ig];rfl
theorem afg {b:Bool} (t:List UInt8) (h:b=false):tx (rf b t)=tx t:=by rw[h];rfl
theorem rG (e:Ex) (a:Int) (K:eu 212 e) (F:e.text.length<=1000000000) (B:Nat) (cs:List Value) (w:World) (v:bC w B e cs) (M:B<=w.heap.size) (f:Tab w) (J:Mx w) :
  CS 240 #[.agg cs.toArray,av aw a] w (ax (tx (rf (decide (gQ e<a)) e.text))):=by
 have O:=qh v;have I:=qh (λ w' (m:DD w w') c (j:bC w' B e c)=>K B c w' j (a1 M m.size) (aB f m) (J.below m));have G:=qh (λ w' c (j:bC w' B e c)=>oz e B c w' j);obtain⟨U,T,V,S,v,R,N⟩:=v;rename_i A1 c1 A2 c2 cs;have D:=qh (λ w' (m:DD w w')=>O.o.keep (m.mono M));obtain⟨r,i⟩:=af (gQ e);obtain⟨t,b⟩:=af (tx e.text);have P:t.size<=1000000000:=by rw[<- b,kG];exact F
 have L:=qh b;have l:=qh i;clear v R N K f J;show Calls lM 240 #[.agg (Ag e A1 c1 A2 e.ar.length c2),av aw a] w _;go_enter func240,ntmps240;go_upto_region 1 with (fail);obtain⟨W,n⟩:=aG ((w.alloc (.cells (Ag e A1 c1 A2 e.ar.length c2) 67 (0,0))));have g:DD w W:=by rw[n];exact ((Below.refl _ w).alloc (aM _) _)
 have B0:ah W (w.heap.size) 67 (Ag e A1 c1 A2 e.ar.length c2):=by
  rw[n];have:=ah.new w 67 (Ag e A1 c1 A2 e.ar.length c2);exact this
 have H:W.heap.size=w.heap.size+1:=by rw[n];simp
 rw[<- n];obtain⟨C,x,z,A,s,u,o,p⟩:=ah.c8 B0;clear n H;go_wp2_with fail;refine (G.o W _ (D.o W g)).mono ?_;rw[i];rintro q y ⟨rfl,h⟩;have d:=g.trans (h.mono g.size);have B0:=B0.below h B0.lt;clear C x z A s u o p h i;obtain⟨C,x,z,A,s,u,o,p⟩:=ah.c8 B0;by_cases hlt:r<a
 .have E:=qh (acB e.text (show decide (gQ e<a)=true by rw[l.o];exact decide_eq_true hlt));go_wp2_with fail;refine (I.o y d _ (D.o y d)).mono ?_;rw[b];rintro q Q ⟨rfl,k⟩;clear C x z A s u o p b;go_wp2_with fail;go_ret;exact⟨by rw[E.o,L.o];try rfl,d.trans (k.mono d.size)⟩
 .have E:=qh (afg e.text (show decide (gQ e<a)=false by rw[l.o];exact decide_eq_false hlt));go_wp2_with fail;refine (I.o y d _ (D.o y d)).mono ?_;rw[b];rintro q Q ⟨rfl,k⟩;clear C x z A s u o p b;go_wp2_with fail;go_ret;exact⟨by rw[E.o,L.o];try rfl,d.trans (k.mono d.size)⟩
theorem Bz (ar:List Ex) (p:List UInt8) (c:Int) (hT:∀ a∈ar,eu 212 a) (h9:∀ a∈ar,a.text.length<=1000000000) (ao:ar.length<=1000000) (hj:(Lib.join (insL c ar) p).length<=1000000000) (A':Option Addr) (c' B:Nat) (cs:List Value) (w:World) (hr:Reads w B 8 A' ar.length cs) (hi:∀ i (h:i<ar.length),bC w B ar[i] ((cs.drop (i*8)).take 8)) (U:B<=w.heap.size) (l:Tab w) (P:Mx w) :
  CS 239 #[ay A' ar.length c',ax (tx p),av aw c] w (ax (tx (Lib.join (insL c ar) p))):=by
 have HR:=qh (a3 hr hi);have HJ:=qh hj;have jU:=qh (a3 l P);have HW:=qh (λ a (ha:a∈ar) cs' w' (Z:bC w' B a cs') (F:DD w w')=>rG a c (hT a ha) (h9 a ha) B cs' w' Z (a1 U F.size) (aB l F) (P.below F));obtain⟨i0,X,aa,S,J⟩:=info_parts qB;have Qz:=qh (rq c ar);clear hr hi l P hT h9;go_enter func239,ntmps239;go_wp2_with fail;have e:DD w w:=Below.refl _ _;go_loopw [12,7] (λ i v wr=>∃ (k:Nat) (u:Value),k<=ar.length/\i = av aw k/\v=u/\Hid (wr.ownsRow w.heap.size 9 1 u k ((((insL c ar).take k).map tx).map a7))/\DD w wr) (λ i _ _=>ar.length - (intOf i).toNat)
 case atStart=>exact⟨0,_,a8 _,rfl,rfl,qh (World.ownsRow_nil _ _ _ _),e⟩
 case round =>
  obtain⟨k,u,hk,rfl,rfl,HO,e⟩:=hrel;have Q:=e.size;have D:=e.mono U;by_cases hlt:k<ar.length
  .obtain⟨ad,ci,rfl,F,r,d⟩:=yf (HR.o.1.below D) (λ i h=>(HR.o.2 i h).keep D) hlt;obtain⟨a,q⟩:=af (ar[k]);have A:a∈ar:=by rw[<- q];exact a2 hlt
   have o:(insL c ar).take (k+1)=(insL c ar).take k ++ [rf (decide (gQ a<c)) a.text]:=by
    have K:k<(insL c ar).length:=by rw[ou];exact hlt
    rw[be K];congr 2;simp only[Qz.o,List.getElem_map,q]
   have R:=qh o;have I:=qh hlt;rw[q] at r;have Y:=qh (HW.o a A);have qV:=qh r;obtain⟨ag,ak,al,ap,T,ac,N⟩:=r;rename_i A3 c3 A4 c4 am;obtain⟨t,s⟩:=af (tx (rf (decide (gQ a<c)) a.text));have mO:=qh s;have qi:wr.cell? (ad.add (k*8))=some (.int .i64 a.k):=d 0 _ rfl;have qW:wr.cell? ⟨(ad.add (k*8)).block,(ad.add (k*8)).off+1,none⟩=some (.int .i64 a.op):=d 1 _ rfl;have xE:wr.cell? ⟨(ad.add (k*8)).block,(ad.add (k*8)).off+2,none⟩=some (.string a.nm):=d 2 _ rfl;have zX:wr.cell? ⟨(ad.add (k*8)).block,(ad.add (k*8)).off+3,none⟩=some (.int .i64 a.v.k):=d 3 _ rfl;have zY:wr.cell? ⟨(ad.add (k*8)).block,(ad.add (k*8)).off+4,none⟩=some (.int .i64 a.v.n):=d 4 _ rfl;have zZ:wr.cell? ⟨(ad.add (k*8)).block,(ad.add (k*8)).off+5,none⟩=some (.string a.v.s):=d 5 _ rfl;have Aa:wr.cell? ⟨(ad.add (k*8)).block,(ad.add (k*8)).off+6,none⟩=some (.slice A3 a.v.l.length c3):=d 6 _ rfl;have Ac:wr.cell? ⟨(ad.add (k*8)).block,(ad.add (k*8)).off+7,none⟩=some (.slice A4 a.ar.length c4):=d 7 _ rfl;clear T ac N d q A o F;go_upto_region 5 with (fail);obtain⟨W3,m⟩:=aG (wr.alloc (.cells (Ag a A3 c3 A4 a.ar.length c4) 67 (0,0)));have C:DD wr W3:=m▸(Below.refl _ wr).alloc (aM _) _;have B3:ah W3 wr.heap.size 67 (Ag a A3 c3 A4 a.ar.length c4):=m▸ah.new wr _ _;have Hg:=qh (show W3.ownsRow w.heap.size 9 1 _ k _ from m▸HO.o.alloc _);rw[<- m];clear m qi qW xE zX zY zZ Aa Ac;have x:=e.trans (C.mono Q);obtain⟨Lu,LC,LD,LH,LJ,LK,LM,LP⟩:=ah.c8 B3;go_wp2_with fail;refine (Y.o _ W3 (qV.o.keep (C.mono (a1 U Q))) x).mono ?_;rw[s];rintro O w4 ⟨rfl,E⟩;have z:=x.trans (E.mono x.size);have sF:=qh (own_below Hg.o E);obtain⟨xs,y⟩:∃ xs:List Value,(((insL c ar).take k).map tx).map a7=xs:=⟨_,rfl⟩;have ae:=qh y;rw[y] at sF;have Nv:=qh (λ g hg=>(sF.o.lt g hg).1);clear y s Lu LC LD LH LJ LK LM LP B3;have an:=z.size;go_wp2_with (at_builtin;refine wpList_append_own _ rfl _ _ 22 rfl w.heap.size 9 i0 (.string ByteArray.empty) 1 16 underlying22 X aa S J rfl (by decide) _ _ _ rfl (sF.o.alloc _) ⟨w4.heap.size,0,none⟩ 1 1 [.string t] rfl rfl ?c1 ?c2 ?c3 ?c4 ?c5 ?_)
   case c1=>intro j u hj;cases j <;> simp_all[go_sem]
   case c2=>intro u hu;simp only[List.mem_singleton] at hu;subst hu;rfl
   case c3=>(have h:=I.o;unfold maxLen;omega)
   case c4=>(have h:=I.o;omega)
   case c5=>(simp;omega)
   intro v2 w5 f H _;have ab:DD w w5:=(z.alloc (by omega) _).grown H (by simp;omega) (λ g hg=>Nv.o g hg);have EO:=qh (show w5.ownsRow w.heap.size 9 1 v2 (k+1) ((((insL c ar).take (k+1)).map tx).map a7) by rw[R.o,bf,bf,bg,bg,mO.o,ae.o];exact f);clear f H;go_wp2;go_roundw
   case rel=>exact⟨k+1,v2,I.o,by go_num,rfl,EO,ab⟩
   case measure =>
    have:=I.o;simp[intOf];omega
  .have V:k=ar.length:=by omega
   have G:(insL c ar).take k=insL c ar:=List.take_of_length_le (by rw[ou];omega);have M:=qh (NP (n:=k) ((insL c ar).map tx) (tx p) wr (by have h:=HO.o;rwa [G] at h) (by rw[List.length_map,ou];omega) (by rw[DT,bh,show ((λ b:ByteArray=>b.data.toList) ∘ tx)=id from funext DT,bi];have:=HJ.o;omega));clear V G;go_wp2_with fail;refine M.o.mono ?_;rintro O w9 ⟨⟨t,rfl,W⟩,gK⟩;rw[DT,bh,show ((λ b:ByteArray=>b.data.toList) ∘ tx)=id from funext DT,bi] at W;have L:=qh (NW W);clear W;go_wp2_with fail;go_ret;exact⟨by rw[L.o];try rfl,e.trans (gK.mono Q)⟩
structure rH (bo:Nat) (w w':World):Prop where
 b:Below bo w w'
 le:w.heap.size<=w'.heap.size
 x:∀ g,g<w.heap.size->g≠bo->g≠bo+1->w'.heap[g]?=w.heap[g]?
theorem rH.refl (bo:Nat) (w:World):rH bo w w:=⟨Below.refl _ _,aM _,λ _ _ _ _=>rfl⟩
theorem rH.trans {bo:Nat} {w w' w'':World} (h:rH bo w w') (a:rH bo w' w''):rH bo w w'':=⟨h.b.trans a.b,a1 h.le a.le,λ g c b d=>(a.x g (a9 c h.le) b d).trans (h.x g c b d)⟩
theorem rH.of {bo:Nat} {w w':World} (h:DD w w') (b:bo<=w.heap.size):rH bo w w':=⟨h.mono b,h.size,λ g a _ _=>h.block g a⟩
theorem rH.blk {bo g:Nat} {T:TypeId} {cs:Array Value} {w w':World} (h:rH bo w w') (a:ah w g T cs) (c:g≠bo) (b:g≠bo+1):ah w' g T cs:=(h.x g a.lt c b).trans a
theorem pre_eq (e:Ex):e.pre=e :: Ba e.ar:=by cases e;rfl
theorem IL:∀ (ar:List Ex) (a:Ex),Ba (ar ++ [a])=Ba ar ++ a.pre
 | [],a=>by simp[Ba]
 | b :: r,a=>by rw[List.cons_append,Ba,IL r a,Ba,List.append_assoc]
theorem Yy {σ:Type} (n:FuncId) (j:Array Value) (ag:∀ (a:Array Value) (W:World),(callFunc n a).run lM W = .ok (.enter n a) W) (B bo:Nat) (X:B<=bo) (St:σ->World->Prop) (c:σ->Ex->σ)
  (y:∀ s w w',St s w->bo+2<=w.heap.size->DD w w'->St s w')
  (z:∀ s e cs w,bC w B e cs->bo+2<=w.heap.size->St s w->Calls lM n (#[.agg cs.toArray] ++ j) w λ r w'=>r = .returned (.tuple #[])/\St (c s e) w'/\rH bo w w') (e:Ex) :
  ∀ (s:σ) (cs:List Value) (w:World),bC w B e cs->bo+2<=w.heap.size->St s w ->
  Calls lM 213 #[.agg cs.toArray,.func (.func n) #[] j] w λ r w'=>r = .returned (.tuple #[])/\St (e.pre.foldl c s) w'/\rH bo w w':=by
 induction e using Ex.ind with
 | h e ih =>
  intro s cs w D hB ho;have PT:=qh (pre_eq e);have HI:=qh ih;have HX:=qh D;have E:=qh ho;have v:=qh y;have I:=qh z;have P:e.ar.length<=maxLen:=by cases D;assumption
  unfold maxLen at P;obtain⟨hn,hs,hl,ha,D,hr,Z⟩:=D;rename_i A1 c1 A2 c2 cs;have HR:=qh (a3 hr Z);clear D hr Z ih ho y z;generalize e.pre=R at PT ⊢;show Calls lM 213 #[.agg (Ag e A1 c1 A2 e.ar.length c2),.func (.func n) #[] j] w _;go_enter func213,ntmps213;go_upto_region 1 with (fail);obtain⟨W,F⟩:=aG ((w.alloc (.cells (Ag e A1 c1 A2 e.ar.length c2) 67 (0,0))));have g:DD w W:=by rw[F];exact ((Below.refl _ w).alloc (aM _) _)
  have B0:ah W w.heap.size 67 (Ag e A1 c1 A2 e.ar.length c2):=by rw[F];exact ah.new w _ _
  have O:=qh (v.o s w W E.o hB g);rw[<- F];obtain⟨iE,iF,iG,iH,iI,iJ,iK,V⟩:=ah.c8 B0;clear F;have ab:=g.size;have H:B<=w.heap.size:=by omega
  have K:w.heap.size≠bo:=by omega
  have S:w.heap.size≠bo+1:=by omega
  have Q:=qh (show Calls lM n (#[.agg (Ag e A1 c1 A2 e.ar.length c2)] ++ j) W _ from I.o s e _ W (HX.o.keep (g.mono H)) (by omega) O.o);go_wp2_with (go_at_fn n;(with_reducible refine Q.o.mono ?_);rintro r w1 ⟨rfl,t,o⟩;have Dn:=qh t;have UD:=qh ((rH.of (bo:=bo) g (by omega)).trans o);have B1:=o.blk B0 K S;clear t o iE iF iG iH iI iJ iK V;have iE:=B1.cell 0;have V:=B1.cell 7);go_loopw [12] (λ i wr=>∃ (k:Nat),k<=e.ar.length/\i = av aw k/\Hid (St ((e :: Ba (e.ar.take k)).foldl c s) wr)/\Hid (rH bo w wr)) (λ i _=>e.ar.length - (intOf i).toNat)
  case atStart=>exact⟨0,a8 _,rfl,by simpa [Ba] using Dn,UD⟩
  case round =>
   obtain⟨k,hk,rfl,E,G⟩:=hrel;have q:=G.o.b;have mg:=G.o.le;by_cases hlt:k<e.ar.length
   .obtain⟨ad,ci,rfl,hb,m,b⟩:=yf (HR.o.1.below (q.mono X)) (λ i h=>(HR.o.2 i h).keep (q.mono X)) hlt;obtain⟨a,l⟩:=af (e.ar[k]);have p:a∈e.ar:=by rw[<- l];exact a2 hlt
    have jr:=qh (show e :: Ba (e.ar.take (k+1))=(e :: Ba (e.ar.take k)) ++ a.pre by rw[be hlt,l,IL];rfl);have aV:=qh hlt;rw[l] at m;have T:=qh (HI.o a p);have qV:=qh m;obtain⟨Y,aa,ac,ak,N,U,M⟩:=m;rename_i A3 c3 A4 c4 ae;have qi:wr.cell? (ad.add (k*8))=some (av aw a.k):=b 0 _ rfl;have qW:wr.cell? ⟨(ad.add (k*8)).block,(ad.add (k*8)).off+1,none⟩=some (av aw a.op):=b 1 _ rfl;have xE:wr.cell? ⟨(ad.add (k*8)).block,(ad.add (k*8)).off+2,none⟩=some (ax a.nm):=b 2 _ rfl;have zX:wr.cell? ⟨(ad.add (k*8)).block,(ad.add (k*8)).off+3,none⟩=some (av aw a.v.k):=b 3 _ rfl;have zY:wr.cell? ⟨(ad.add (k*8)).block,(ad.add (k*8)).off+4,none⟩=some (av aw a.v.n):=b 4 _ rfl;have zZ:wr.cell? ⟨(ad.add (k*8)).block,(ad.add (k*8)).off+5,none⟩=some (ax a.v.s):=b 5 _ rfl;have Aa:wr.cell? ⟨(ad.add (k*8)).block,(ad.add (k*8)).off+6,none⟩=some (ay A3 a.v.l.length c3):=b 6 _ rfl;have Ac:wr.cell? ⟨(ad.add (k*8)).block,(ad.add (k*8)).off+7,none⟩=some (ay A4 a.ar.length c4):=b 7 _ rfl;clear N U M b l p hb;go_upto_region 5 with (fail);obtain⟨W3,f⟩:=aG (wr.alloc (.cells (Ag a A3 c3 A4 a.ar.length c4) 67 (0,0)));have d:DD wr W3:=f▸(Below.refl _ wr).alloc (aM _) _;have B3:ah W3 wr.heap.size 67 (Ag a A3 c3 A4 a.ar.length c4):=f▸ah.new wr _ _;have u:bo+2<=wr.heap.size:=by omega
    have Hg:=qh (v.o _ wr W3 E.o u d);rw[<- f];clear f qi qW xE zX zY zZ Aa Ac;obtain⟨Lu,LC,LD,LH,LJ,LK,LM,LP⟩:=ah.c8 B3;go_wp2_with fail;refine (T.o _ _ W3 (qV.o.keep (d.mono (by omega))) (a1 u d.size) Hg.o).mono ?_;rintro r w4 ⟨rfl,A,C⟩;have J:=qh ((G.o.trans (rH.of (bo:=bo) d (by omega))).trans C);have sF:=qh (show St ((e :: Ba (e.ar.take (k+1))).foldl c s) w4 by rw[jr.o,List.foldl_append];exact A);clear A C Lu LC LD LH LJ LK LM LP;go_wp2_with fail;go_roundw
    case rel=>exact⟨k+1,aV.o,by go_num,sF,J⟩
    case measure =>
     have:=aV.o;simp[intOf];omega
   .have x:k=e.ar.length:=by omega
    have L:=qh (show St (R.foldl c s) wr by have h:=E.o;rw[x,List.take_length,<- PT.o] at h;exact h);clear E x;go_wp2_with fail;go_end0;exact⟨rfl,L.o,G.o⟩
theorem NY (m:bu) (A:Option Addr) (c b:Nat) (s:ByteArray) (w:World) (f:w.cell? ⟨b,2,none⟩=some (ax s)) (j:b<w.heap.size) :
  CS 216 #[.agg #[ax m.nm,av aw m.kind,ay A m.loops.length c],aD (some ⟨b,0,none⟩)] w (aL (decide (m.nm=s))):=by
 obtain⟨W,d⟩:=aG (w.alloc (aE #[ax m.nm,av aw m.kind,ay A m.loops.length c] 51 (0,0)));have a:DD w W:=d▸az w _;have i:W.cell? ⟨w.heap.size,0,none⟩=some (ax m.nm):=by
  have B:ah W w.heap.size 51 #[ax m.nm,av aw m.kind,ay A m.loops.length c]:=d▸ah.new w _ _;exact B.cell 0
 have g:W.cell? ⟨b,2,none⟩=some (ax s):=Below.cell_of a f;clear f;go_enter func216,ntmps216;go_upto_region 1 with (fail);rw[<- d];clear d;go_wp2;go_ret;exact⟨aH (by rw[a5,a5,Bool.eq_iff_iff,beq_iff_eq,decide_eq_true_iff];exact⟨λ h=>ByteArray.ext (Array.toList_inj.1 h),λ h=>by rw[h]⟩),a⟩
def NZ (s:ByteArray) (l:List bu):Int:=if l.any (λ m=>decide (m.nm=s))=true then (l.findIdx (λ m=>decide (m.nm=s)):Nat) else -1
theorem QE (l:List bu) (A:Option Addr) (c p B:Nat) (s:ByteArray) (w:World) (y:eX w B A l) (N:B<=w.heap.size) (G:w.cell? ⟨p,2,none⟩=some (ax s)) (O:p<w.heap.size) :
  CS 244 #[ay A l.length c,.func (.func 216) #[] #[aD (some ⟨p,0,none⟩)]] w (av aw (NZ s l)):=by
 have L:∀ (a:Array Value) (W:World),(callFunc 216 a).run lM W = .ok (.enter 216 a) W:=λ a W=>by simp[callFunc,go_sem,func216,f216]
 have K:=qh y;have F:=qh (a3 G O);have C:=y.1;unfold maxLen at C;clear y G;go_enter func244,ntmps244;go_wp2_with fail;go_loopw [8,5] (λ i _ wr=>∃ k:Nat,k<=l.length/\i = av aw k/\DD w wr/\Hid (∀ j (g:j<l.length),j<k->decide (l[j].nm=s)=false)) (λ i _ _=>l.length - (intOf i).toNat)
 case atStart=>exact⟨0,a8 _,rfl,Below.refl _ _,qh (λ j _ h=>absurd h (Nat.not_lt_zero _))⟩
 case round =>
  obtain⟨k,R,rfl,b,x⟩:=hrel;by_cases hlt:k<l.length
  .obtain⟨ad,Q,rfl,M,r,o⟩:=(K.o.keep (b.mono N)).at_ hlt;obtain⟨⟨H,cm,rfl,-,-⟩,-,-,-⟩:=r;obtain⟨m,z⟩:=af (l[k]);have d:=qh z;rw[z] at o;have P:wr.cell? (ad.add (k*3))=some (ax m.nm):=o 0 _ rfl;have c1:wr.cell? ⟨(ad.add (k*3)).block,(ad.add (k*3)).off+1,none⟩=some (av aw m.kind):=o 1 _ rfl;have c2:wr.cell? ⟨(ad.add (k*3)).block,(ad.add (k*3)).off+2,none⟩=some (ay H m.loops.length cm):=o 2 _ rfl;have t:=qh (NY m H cm p s wr (Below.cell_of b F.o.1) (a9 F.o.2 b.size));have n:=qh hlt;clear o M z;obtain⟨q,u⟩:=af (decide (m.nm=s));rw[u] at t;have E:=qh u;clear u;cases q
   .go_wp2_with (go_at_fn 216;refine t.o.mono ?_;rintro e J ⟨rfl,f⟩);go_roundw
    case rel=>exact⟨k+1,n.o,by go_num,b.trans (f.mono b.size),qh (λ j g h=>by
     by_cases e:j=k
     .subst e;rw[d.o];exact E.o
     .exact x.o j g (by omega))⟩
    case measure =>
     have:=n.o;simp[intOf];omega
   .have D:=qh (show NZ s l=k by
     unfold NZ;rw[if_pos (bj.2 ⟨l[k]'n.o,a2 n.o,by rw[d.o];exact E.o⟩)];congr 1;refine (List.findIdx_eq n.o).2 ⟨by rw[d.o];exact E.o,λ j g=>?_⟩;have:=x.o j (by omega) g;simpa using this)
    go_wp2_with (go_at_fn 216;refine t.o.mono ?_;rintro e J ⟨rfl,f⟩);go_ret;exact⟨aj (by rw[D.o]),b.trans (f.mono b.size)⟩
  .have D:=qh (show NZ s l = -1 by
    unfold NZ;rw[if_neg];intro h;obtain⟨v,I,r⟩:=bj.1 h;obtain⟨j,g,rfl⟩:=List.mem_iff_getElem.1 I;rw[x.o j g (by omega)] at r;cases r)
   go_wp2_with fail;go_ret;exact⟨aj (by rw[D.o]),b⟩
theorem Hy (l:List bu) (A:Option Addr) (c a B:Nat) (s:ByteArray) (w:World) (d:eX w B A l) (k:B<=w.heap.size) (f:w.cell? ⟨a,2,none⟩=some (ax s)) (n:a<w.heap.size) :
  CS 215 #[ay A l.length c,.func (.func 216) #[] #[aD (some ⟨a,0,none⟩)]] w (aL (l.any (λ m=>decide (m.nm=s)))):=by
 have g:=qh (QE l A c a B s w d k f n);have i:=qh (show decide (0<=NZ s l)=l.any (λ m=>decide (m.nm=s)) by unfold NZ;cases h:l.any (λ m=>decide (m.nm=s)) <;> simp);clear d f;obtain⟨q,j⟩:=af (NZ s l);rw[j] at g i;go_enter func215,ntmps215;go_wp2_with (go_at_call 244;refine g.o.mono ?_;rintro e o ⟨rfl,b⟩);go_ret;exact⟨aH (by rw[<- i.o]),b⟩
theorem wS (a:Int) (ar:List Ex) (i:Nat) (h:i<ar.length):(insL a ar).getD i []=rf (decide (gQ ar[i]<a)) ar[i].text:=by
 rw[rq,a4,a6,List.getElem?_eq_getElem h];rfl
theorem BD (e:Ex) (left right:Int) (hT:∀ a∈e.ar,eu 212 a) (F:∀ a∈e.ar,a.text.length<=1000000000) (h2:e.ar.length=2) (B:Nat) (cs:List Value) (w:World) (hx:bC w B e cs) (I:B<=w.heap.size) (i:Tab w) (Q:Mx w) :
  CS 241 #[.agg cs.toArray,av aw left,av aw right] w (ax (tx ((insL left e.ar).getD 0 [] ++ [32] ++ dH e.op ++ [32] ++ (insL right e.ar).getD 1 []))):=by
 obtain⟨hn,hs,hl,ha,hx,U,M⟩:=hx;rename_i A1 c1 A2 c2 cs;obtain⟨ad,am,rfl,ac,O,g⟩:=yf U M (show 0<e.ar.length by omega);obtain⟨ap,aq,x,J,z,d⟩:=yf U M (show 1<e.ar.length by omega);injection x with x;subst x;have s:=wS left e.ar 0 (by omega);have t:=wS right e.ar 1 (by omega);have o:=λ w' k (y:bC w' B e.ar[0] k) (f:DD w w')=>rG e.ar[0] left (hT _ (a2 _)) (F _ (a2 _)) B k w' y (a1 I f.size) (aB i f) (Q.below f);have m:=λ w' k (y:bC w' B e.ar[1] k) (f:DD w w')=>rG e.ar[1] right (hT _ (a2 _)) (F _ (a2 _)) B k w' y (a1 I f.size) (aB i f) (Q.below f);have G:=F _ (a2 (show 0<e.ar.length by omega));have D:=F _ (a2 (show 1<e.ar.length by omega));obtain⟨a,C⟩:=af (e.ar[0]);obtain⟨b,A⟩:=af (e.ar[1]);rw[C] at O s G;rw[A] at z t D;simp only[C] at o;simp only[A] at m;have ag:=x9 (decide (gQ a<left)) a.text;have V:=x9 (decide (gQ b<right)) b.text;have L:=NV e.op;obtain⟨t0,q⟩:=af (tx (rf (decide (gQ a<left)) a.text));obtain⟨X,l⟩:=af (tx (rf (decide (gQ b<right)) b.text));obtain⟨N,r⟩:=af (tx (dH e.op));have s0:t0.size<=2000000000:=by rw[<- q,kG];omega
 have s1:X.size<=2000000000:=by rw[<- l,kG];omega
 have sw:N.size<=3:=by rw[<- r,kG];omega
 have HV:=qh (show tx ((insL left e.ar).getD 0 [] ++ [32] ++ dH e.op ++ [32] ++ (insL right e.ar).getD 1 [])=t0 ++ ⟨#[32]⟩ ++ N ++ ⟨#[32]⟩ ++ X by
  rw[s,t,<- q,<- l,<- r,<- ig,<- ig,<- ig,<- ig];rfl)
 rw[q] at o;rw[l] at m;have T:=qh O;have Qc:=qh z;obtain⟨z1,z2,z3,z4,ak,aa,P⟩:=O;rename_i A3 c3 A4 c4 an;obtain⟨y1,y2,y3,y4,Z,S,ae⟩:=z;rename_i A5 c5 R Y ao;have n:∀ j u,(aA a A3 c3 A4 c4)[j]?=some u->w.cell? (ad.add j)=some u:=λ j u K=>by have h:=g j u K;rwa [Nat.zero_mul,kV] at h
 have p:∀ j u,(aA b A5 c5 R Y)[j]?=some u->w.cell? ((ad.add 8).add j)=some u:=λ j u K=>by have h:=d j u K;rwa [Nat.one_mul] at h
 have qi:w.cell? (ad)=some (av aw a.k):=n 0 _ rfl;have qW:w.cell? ⟨(ad).block,(ad).off+1,none⟩=some (av aw a.op):=n 1 _ rfl;have xE:w.cell? ⟨(ad).block,(ad).off+2,none⟩=some (ax a.nm):=n 2 _ rfl;have zX:w.cell? ⟨(ad).block,(ad).off+3,none⟩=some (av aw a.v.k):=n 3 _ rfl;have zY:w.cell? ⟨(ad).block,(ad).off+4,none⟩=some (av aw a.v.n):=n 4 _ rfl;have zZ:w.cell? ⟨(ad).block,(ad).off+5,none⟩=some (ax a.v.s):=n 5 _ rfl;have Aa:w.cell? ⟨(ad).block,(ad).off+6,none⟩=some (ay A3 a.v.l.length c3):=n 6 _ rfl;have Ac:w.cell? ⟨(ad).block,(ad).off+7,none⟩=some (ay A4 a.ar.length c4):=n 7 _ rfl;have Lu:w.cell? ⟨ad.block,ad.off+8,none⟩=some (av aw b.k):=p 0 _ rfl;have LC:w.cell? ⟨ad.block,ad.off+8+1,none⟩=some (av aw b.op):=p 1 _ rfl;have LD:w.cell? ⟨ad.block,ad.off+8+2,none⟩=some (ax b.nm):=p 2 _ rfl;have LH:w.cell? ⟨ad.block,ad.off+8+3,none⟩=some (av aw b.v.k):=p 3 _ rfl;have LJ:w.cell? ⟨ad.block,ad.off+8+4,none⟩=some (av aw b.v.n):=p 4 _ rfl;have LK:w.cell? ⟨ad.block,ad.off+8+5,none⟩=some (ax b.v.s):=p 5 _ rfl;have LM:w.cell? ⟨ad.block,ad.off+8+6,none⟩=some (ay A5 b.v.l.length c5):=p 6 _ rfl;have LP:w.cell? ⟨ad.block,ad.off+8+7,none⟩=some (ay R b.ar.length Y):=p 7 _ rfl;have al:=qh h2;clear hx U M hT F i Q g d n p ak aa P Z S ae s t C A q l G D ag V ac J L z1 z2 z3 z4 y1 y2 y3 y4;show Calls lM 241 #[.agg (Ag e A1 c1 (some ad) e.ar.length c2),av aw left,av aw right] w _;rw[h2];clear h2;go_enter func241,ntmps241;go_upto_region 1 with (fail);obtain⟨W,E⟩:=aG ((w.alloc (.cells (Ag e A1 c1 (some ad) 2 c2) 67 (0,0))));have c:DD w W:=by rw[E];exact ((Below.refl _ w).alloc (aM _) _)
 have B0:ah W (w.heap.size) 67 (Ag e A1 c1 (some ad) 2 c2):=by
  rw[E];have:=ah.new w 67 (Ag e A1 c1 (some ad) 2 c2);exact this
 have ab:W.heap.size=w.heap.size+1:=by rw[E];simp
 rw[<- E];have k1:∀ w',DD W w'->CS 240 #[.agg (Ag a A3 c3 A4 a.ar.length c4),av aw left] w' (ax t0):=λ w' f=>o w' _ (T.o.keep ((c.trans (f.mono c.size)).mono I)) (c.trans (f.mono c.size));have k2:∀ w',DD W w'->CS 240 #[.agg (Ag b A5 c5 R b.ar.length Y),av aw right] w' (ax X):=λ w' f=>m w' _ (Qc.o.keep ((c.trans (f.mono c.size)).mono I)) (c.trans (f.mono c.size));have k3:∀ w',DD W w'->CS 265 #[av aw e.op] w' (ax N):=λ w' f=>by have h:=Qy e.op w';rwa [r] at h
 have K1:=qh (Later.call k1);have K2:=qh (Later.call k2);have K3:=qh (Later.call k3);have q0:=Later.cell (show W.cell? ⟨w.heap.size,1,none⟩=some (av aw e.op) from B0.cell 1);have q1:=Later.cell (show W.cell? ⟨w.heap.size,7,none⟩=some (ay (some ad) 2 c2) from B0.cell 7);have u0:=Later.cell (Below.cell_of c qi);have v0:=Later.cell (Below.cell_of c Lu);have u1:=Later.cell (Below.cell_of c qW);have v1:=Later.cell (Below.cell_of c LC);have u2:=Later.cell (Below.cell_of c xE);have v2:=Later.cell (Below.cell_of c LD);have u3:=Later.cell (Below.cell_of c zX);have v3:=Later.cell (Below.cell_of c LH);have u4:=Later.cell (Below.cell_of c zY);have v4:=Later.cell (Below.cell_of c LJ);have u5:=Later.cell (Below.cell_of c zZ);have v5:=Later.cell (Below.cell_of c LK);have u6:=Later.cell (Below.cell_of c Aa);have v6:=Later.cell (Below.cell_of c LM);have u7:=Later.cell (Below.cell_of c Ac);have v7:=Later.cell (Below.cell_of c LP);clear k1 k2 k3 o m E ab r B0 qi Lu qW LC xE LD zX LH zY LJ zZ LK Aa LM Ac LP;refine aU (by kernel_rfl) (by kernel_rfl) ?_
 repeat (go_big_quiet_step (first | with_reducible exact K1.o _ | with_reducible exact K2.o _ | with_reducible exact K3.o _))
 refine wpQuiet_nil ?_;intro W9 H;have gK:=iQ H;clear H;go_wp2_with fail;go_ret;exact⟨by rw[HV.o];try rfl,c.trans (gK.mono c.size)⟩
attribute [local go_sem ↓] ld_item st_item ld_node st_node ld_ans st_ans ld_part st_part ld_rule st_rule ld_form st_form
def Tn (wb:World) (s:Int × Int) (w:World):Prop:=DD wb w/\ah w wb.heap.size 28 #[av aw s.1]/\ah w (wb.heap.size+1) 28 #[av aw s.2]
theorem Tn.later {b w w':World} {s:Int × Int} (h:Tn b s w) (a:DD w w'):Tn b s w':=
 ⟨h.1.trans (a.mono h.1.size),h.2.1.below a h.2.1.lt,h.2.2.below a h.2.2.lt⟩
theorem Tn.out_ {a w:World} {s:Int × Int} (h:Tn a s w) (v:Int):Tn a (v,s.2) (w.setCell ⟨a.heap.size,0,none⟩ (av aw v))/\rH a.heap.size w (w.setCell ⟨a.heap.size,0,none⟩ (av aw v)):=
 ⟨⟨h.1.setCell (p:=⟨a.heap.size,0,none⟩) (aM _) _,h.2.1.bP 0 _,h.2.2.far (by simp) _⟩,
  (Below.refl a.heap.size w).setCell (p:=⟨a.heap.size,0,none⟩) (aM _) _,((Below.refl a.heap.size w).setCell (p:=⟨a.heap.size,0,none⟩) (aM _) _).size,λ g _ b _=>Below.heap_setCell w _ _ g b⟩
theorem Tn.early {a w:World} {s:Int × Int} (h:Tn a s w) (v:Int):Tn a (s.1,v) (w.setCell ⟨a.heap.size+1,0,none⟩ (av aw v))/\rH a.heap.size w (w.setCell ⟨a.heap.size+1,0,none⟩ (av aw v)):=
 ⟨⟨h.1.setCell (p:=⟨a.heap.size+1,0,none⟩) (ba _) _,h.2.1.far (by simp) _,h.2.2.bP 0 _⟩,
  (Below.refl a.heap.size w).setCell (p:=⟨a.heap.size+1,0,none⟩) (ba _) _,((Below.refl a.heap.size w).setCell (p:=⟨a.heap.size+1,0,none⟩) (ba _) _).size,λ g _ _ b=>Below.heap_setCell w _ _ g b⟩
structure aiP (wb:World) (B0 gb m1 m2 m3 cg pc pm pn:Nat) (x:jS) (f:aI) (N:List au) (K:aY) (more:List bu) (AM:Option Addr) (cm n:Nat):Prop where
 bk:aT wb B0 gb m1 m2 m3 x f N K
 cc:wb.cell? ⟨cg,0,none⟩=some (aD (some ⟨gb,0,none⟩))
 pc:wb.cell? ⟨pc,0,none⟩=some (aD (some ⟨cg,0,none⟩))
 pm:wb.cell? ⟨pm,0,none⟩=some (ay AM more.length cm)
 pn:wb.cell? ⟨pn,0,none⟩=some (av aw n)
 mo:eX wb wb.heap.size AM more
 hn:n<N.length
 par:gW N
theorem QF {F:World} {B0 P m1 m2 m3 cg pc pm pn:Nat} {x:jS} {f:aI} {N:List au} {K:aY} {more:List bu} {AM:Option Addr} {cm n:Nat} (h:aiP F B0 P m1 m2 m3 cg pc pm pn x f N K more AM cm n)
  (s:Int × Int) (e:Ex) (cs:List Value) (w:World) (hx:bC w F.heap.size e cs) (hB:F.heap.size+2<=w.heap.size) (hs:Tn F s w) :
  Calls lM 214 #[.agg cs.toArray,aD (some ⟨pc,0,none⟩),aD (some ⟨pm,0,none⟩),aD (some ⟨F.heap.size,0,none⟩),aD (some ⟨pn,0,none⟩),aD (some ⟨F.heap.size+1,0,none⟩)] w
   λ en w'=>en = .returned (.tuple #[])/\Tn F (CJ N n more s e) w'/\rH F.heap.size w w':=by
 have H:=qh h;have HS:=qh hs;have HX:=qh hx;obtain⟨R,hR⟩:=af (CJ N n more s e);have a:=qh (show R=_ from hR.symm.trans (CJ.eq_def N n more s e));rw[hR];obtain⟨aq,-,-,-,-,-,-⟩:=hx;rename_i A1 c1 A2 c2 cs;have ao:=hs.1;have hh:=h.hn;have ar:=h.bk.cap;have tq:=h.bk.nodes.1;clear hR hs h;show Calls lM 214 #[.agg (Ag e A1 c1 A2 e.ar.length c2),aD (some ⟨pc,0,none⟩),aD (some ⟨pm,0,none⟩),aD (some ⟨F.heap.size,0,none⟩),aD (some ⟨pn,0,none⟩),aD (some ⟨F.heap.size+1,0,none⟩)] w _;go_enter func214,ntmps214;go_upto_region 1 with (fail);obtain⟨W,hW⟩:=aG ((w.alloc (.cells (Ag e A1 c1 A2 e.ar.length c2) 67 (0,0))));have S:DD w W:=by rw[hW];exact ((Below.refl _ w).alloc (aM _) _)
 have BE:ah W w.heap.size 67 (Ag e A1 c1 A2 e.ar.length c2):=by rw[hW];exact ah.new w _ _
 rw[<- hW];clear hW;have y:=ao.trans (S.mono ao.size)
 -- what is seen later
 have HL:=qh (show ∀ w',DD W w'->w'.cell? ⟨pc,0,none⟩=some (aD (some ⟨cg,0,none⟩))/\w'.cell? ⟨cg,0,none⟩=some (aD (some ⟨P,0,none⟩))/\w'.cell? ⟨pn,0,none⟩=some (av aw n)/\w'.cell? ⟨pm,0,none⟩=some (ay AM more.length cm)/\w'.cell? ⟨w.heap.size,0,none⟩=some (av aw e.k)/\w'.cell? ⟨w.heap.size,2,none⟩=some (ax e.nm) from λ w' t=>by
  have Q:=y.trans (t.mono y.size);exact⟨Below.cell_of Q H.o.pc,Below.cell_of Q H.o.cc,Below.cell_of Q H.o.pn,Below.cell_of Q H.o.pm,Below.cell_of t (BE.cell 0),Below.cell_of t (BE.cell 2)⟩)
 have U:=qh (show ∀ w',DD W w'->aT w' B0 P m1 m2 m3 x f N K from λ w' t=>H.o.bk.keep (y.trans (t.mono y.size)));obtain⟨C,B,D,L,I,G⟩:=HL.o W (Below.refl _ _);obtain⟨kn,ab⟩:=af (fA N e.nm);have N7:=qh ab;rw[ab] at a;have o:=qh (show ∀ w',DD W w'->Tn F s w'/\rH F.heap.size w w' from λ w' t=>⟨(HS.o.later S).later t,rH.of (S.trans (t.mono S.size)) (by omega)⟩);have K1:=qh (Later.call (W:=W) (f:=36) (args:=#[aD (some ⟨P,0,none⟩),ax e.nm]) (v:=av aw kn) λ w' t=>(uZ (U.o w' t) e.nm aq).mono λ _ _ ⟨he,hw⟩=>⟨by rw[he,N7.o],hw▸Below.refl _ _⟩);have r1:=Later.cell C;have r2:=Later.cell B;have r6:=Later.cell G;clear ab;go_upto_region 1 with (fail);refine aU (by kernel_rfl) (by kernel_rfl) ?_
 repeat (go_big_quiet_step (first | (with_reducible exact K1.o _)))
 refine wpQuiet_nil ?_;intro r c;have g:=iQ c;clear c K1 r1 r2 r6 C B D L I G;obtain⟨C,B,D,L,I,G⟩:=HL.o r g;by_cases h2:e.k=2
 .have a:=qh (a.o.trans (if_pos h2));obtain⟨g2,ap⟩:=iP h2;have KC:=qh (Hy more AM cm w.heap.size F.heap.size e.nm r (H.o.mo.keep (y.trans (g.mono y.size))) (a1 y.size g.size) G (a9 BE.lt g.size));obtain⟨x1,al⟩:=af (more.any (λ m=>decide (m.nm=e.nm)));rw[al] at KC a;clear al h2;cases x1
  case true =>
   have a:=qh (a.o.trans (if_pos rfl));go_wp2_with (go_at_call 215;(with_reducible refine KC.o.mono ?_);rintro e1 Z ⟨rfl,k⟩)
   (try simp only[Exit.inBlock,Exit.then]);refine bodyPost_ret (results_none rfl _ _ _) rfl ?_
   exact⟨rfl,by rw[a.o];exact (o.o Z (g.trans (k.mono g.size))).1,(o.o Z (g.trans (k.mono g.size))).2⟩
  have a:=qh (a.o.trans (if_neg (by decide)));go_upto_region 5 with (go_at_call 215;(with_reducible refine KC.o.mono ?_);rintro e1 Z ⟨rfl,k⟩);have k:=g.trans (k.mono g.size);clear C B D L I G KC;obtain⟨C,B,D,L,I,G⟩:=HL.o Z k;by_cases h0:kn<0
  .have a:=qh (a.o.trans (if_pos (.inl h0)));have S3:=qh (o.o Z k);have V:=S3.o.1.2.1.cell 0;have Y:=S3.o.1.2.1.frozen 0;go_wp2;go_end0;exact⟨rfl,by rw[a.o];exact (S3.o.1.out_ 5).1,S3.o.2.trans (S3.o.1.out_ 5).2⟩
  obtain⟨i,X,l⟩:=wJ (N:=N) (s:=e.nm) (by rw[N7.o];exact h0);rw[N7.o] at X;subst X;have J:¬ (i:Int)<0:=by omega
  clear h0;obtain⟨ad,I1,j1,I2,j2,I3,j3,I4,j4,I5,j5,B1,b1,B2,b2,B3,b3,Ad,cd,hA,PU,-,-,hc⟩:=(U.o Z k).pG l;obtain⟨d,M⟩:=af (N[i]);rw[M] at hc;have q:jY N (i:Int)=d:=by rw[iD l,M]
  rw[q] at a;obtain⟨ns,T⟩:∃ cs:List Value,[av aw d.it.k,ax d.it.nm,ay I1 d.it.iff.length j1,ay I2 d.it.ph.length j2,ay I3 d.it.items.length j3,aL d.it.sh,ay I4 d.it.cnt.length j4,ax d.it.over,av aw d.it.ans.k,av aw d.it.ans.lo,av aw d.it.ans.hi,av aw d.it.ans.pl,ax d.it.ans.ls,ay B1 d.it.ans.only.length b1,aL d.it.ans.sh,ay B2 d.it.ans.rs.length b2,aL d.it.ans.need,ay B3 d.it.ans.ch.length b3,ay I5 d.it.cmp.length j5,av aw d.par,av aw d.jA,av aw d.dm,ay Ad d.lo.length cd]=cs:=⟨_,rfl⟩;have qL:ns.length=23:=by subst T;rfl
  have am:ns[0]?=some (av aw d.it.k):=by subst T;rfl
  have JM:=ES (w:=Z) qL (ad:=ad.add (i*23)) (λ j u hu=>hc j u (by subst T;exact hu));have EW:=qh (ET ns d.it.k qL am Z);rw[show (decide (d.it.k=4) || decide (d.it.k=5))=EJ d from rfl] at EW;clear T qL am hc M q hA;obtain⟨x2,an⟩:=af (EJ d);rw[an] at EW a;clear an;cases x2
  case false =>
   have a:=qh (a.o.trans (if_pos (.inr rfl)));go_wp2_with (go_at_call 109;(with_reducible refine EW.o.mono ?_);rintro e1 w4 ⟨rfl,ae⟩;have z:=k.trans (ae.mono k.size);have S4:=qh (o.o w4 z);have V:=S4.o.1.2.1.cell 0;have Y:=S4.o.1.2.1.frozen 0);go_end0;exact⟨rfl,by rw[a.o];exact (S4.o.1.out_ 5).1,S4.o.2.trans (S4.o.1.out_ 5).2⟩
  have a:=qh (a.o.trans (if_neg (by rintro (h | h);exact J h;cases h)));go_upto_region 7 with (go_at_call 109;(with_reducible refine EW.o.mono ?_);rintro e1 w4 ⟨rfl,ae⟩);have z:=k.trans (ae.mono k.size);clear C B D L I G JM EW PU;obtain⟨C,B,D,L,I,G⟩:=HL.o w4 z;obtain⟨x3,A⟩:=af (iW N i n);have O:=qh (Later.call (W:=w4) (f:=174) (args:=#[aD (some ⟨P,0,none⟩),av aw i,av aw n]) (v:=aL x3) λ w' t=>(wK (U.o w' (z.trans (t.mono z.size))) H.o.par i n l hh).mono λ _ _ ⟨he,hw⟩=>⟨by rw[he,A],hw⟩);rw[A] at a;have r1:=Later.cell C;have r2:=Later.cell B;have r3:=Later.cell D;clear A;go_upto_region 7 with (fail);refine aU (by kernel_rfl) (by kernel_rfl) ?_
  repeat (go_big_quiet_step (first | (with_reducible exact O.o _)))
  refine wpQuiet_nil ?_;intro E c;have b:=iQ c;clear c O r1 r2 r3 C B D L I G;have b:=z.trans (b.mono z.size);cases x3
  .have a:=qh (a.o.trans (if_pos rfl));have p:=qh (o.o E b);have V:=p.o.1.2.2.cell 0;have Y:=p.o.1.2.2.frozen 0;go_wp2;go_end0;exact⟨rfl,by rw[a.o];exact (p.o.1.early 14).1,p.o.2.trans (p.o.1.early 14).2⟩
  .have a:=qh (a.o.trans (if_neg (by decide)));go_wp2;go_end0;exact⟨rfl,by rw[a.o];exact (o.o E b).1,(o.o E b).2⟩
 have a:=qh (a.o.trans (if_neg h2));obtain⟨g2,ap⟩:=fH h2;clear h2;by_cases h35:e.k=3\/e.k=5;rotate_left
 .have a:=qh (a.o.trans (if_neg h35));obtain⟨g3,ak⟩:=fH (λ h=>h35 (.inl h));obtain⟨g5,Xg⟩:=fH (λ h=>h35 (.inr h));clear h35;go_wp2;go_end0;exact⟨rfl,by rw[a.o];exact (o.o r g).1,(o.o r g).2⟩
 have a:=qh (a.o.trans (if_pos h35));by_cases h5:e.k=5
 .obtain⟨g5,Xg⟩:=iP h5;obtain⟨g3,ak⟩:=fH (show ¬ e.k=3 by omega);have H5:=qh h5;clear h5 h35;by_cases h0:kn<0
  .have a:=qh (a.o.trans (if_pos (.inl h0)));have S9:=qh (o.o r g);have V:=S9.o.1.2.1.cell 0;have Y:=S9.o.1.2.1.frozen 0;go_wp2;go_end0;exact⟨rfl,by rw[a.o];exact (S9.o.1.out_ 5).1,S9.o.2.trans (S9.o.1.out_ 5).2⟩
  obtain⟨i,X,l⟩:=wJ (N:=N) (s:=e.nm) (by rw[N7.o];exact h0);rw[N7.o] at X;subst X;have J:¬ (i:Int)<0:=by omega
  clear h0;obtain⟨ad,I1,j1,hA,-,q0,-,-,-,-,-,-,-⟩:=(U.o r g).nd_ l;have c5:r.cell? ⟨P,5,none⟩=some (ay x.AN N.length x.cn):=(U.o r g).blk.cell 5;rw[hA] at c5;obtain⟨d,M⟩:=af (N[i]);have q:jY N (i:Int)=d:=by rw[iD l,M]
  rw[q] at a;rw[M] at q0;clear M q hA;by_cases hk3:d.it.k=3;rotate_left
  .have a:=qh (a.o.trans (if_pos (.inr hk3)));obtain⟨g9,ag⟩:=fH hk3;clear hk3;have S9:=qh (o.o r g);have V:=S9.o.1.2.1.cell 0;have Y:=S9.o.1.2.1.frozen 0;go_wp2;go_end0;exact⟨rfl,by rw[a.o];exact (S9.o.1.out_ 5).1,S9.o.2.trans (S9.o.1.out_ 5).2⟩
  have a:=qh (a.o.trans (if_neg (by rintro (h | h);exact J h;exact h hk3)));obtain⟨g9,ag⟩:=iP hk3;clear hk3;obtain⟨x3,A⟩:=af (iW N i n);obtain⟨x4,aa⟩:=af (yV N i n);have O:=qh (Later.call (W:=r) (f:=174) (args:=#[aD (some ⟨P,0,none⟩),av aw i,av aw n]) (v:=aL x3) λ w' t=>(wK (U.o w' (g.trans (t.mono g.size))) H.o.par i n l hh).mono λ _ _ ⟨he,hw⟩=>⟨by rw[he,A],hw⟩);have KR:=qh (Later.call (W:=r) (f:=217) (args:=#[aD (some ⟨P,0,none⟩),av aw i,av aw n]) (v:=aL x4) λ w' t=>(Qo (U.o w' (g.trans (t.mono g.size))) H.o.par i n hh).mono λ _ _ ⟨he,hw⟩=>⟨by rw[he,aa],hw▸Below.refl _ _⟩);rw[A,aa] at a;have r0:=Later.cell I;have r1:=Later.cell C;have r2:=Later.cell B;have r3:=Later.cell D;clear A aa;cases x3
  .have ac:=qh (show R=(s.1,14) from a.o.trans (if_pos ⟨H5.o,.inl rfl⟩));go_upto_region 13 with (fail);refine aU (by kernel_rfl) (by kernel_rfl) ?_
   repeat (go_big_quiet_step (first | (with_reducible exact O.o _) | (with_reducible exact KR.o _)))
   refine wpQuiet_nil ?_;intro E c;have b:=iQ c;clear c O KR r0 r1 r2 r3 C B D L I G q0 c5;have b:=g.trans (b.mono g.size);have p:=qh (o.o E b);have V:=p.o.1.2.2.cell 0;have Y:=p.o.1.2.2.frozen 0;go_wp2;go_end0;exact⟨rfl,by rw[ac.o];exact (p.o.1.early 14).1,p.o.2.trans (p.o.1.early 14).2⟩
  cases x4
  .have a:=qh (a.o.trans (if_neg (by rintro ⟨-,h | h⟩ <;> cases h)));go_upto_region 13 with (fail);refine aU (by kernel_rfl) (by kernel_rfl) ?_
   repeat (go_big_quiet_step (first | (with_reducible exact O.o _) | (with_reducible exact KR.o _)))
   refine wpQuiet_nil ?_;intro E c;have b:=iQ c;clear c O KR r0 r1 r2 r3 C B D L I G q0 c5;have b:=g.trans (b.mono g.size);go_wp2;go_end0;exact⟨rfl,by rw[a.o];exact (o.o E b).1,(o.o E b).2⟩
  .have ac:=qh (show R=(s.1,14) from a.o.trans (if_pos ⟨H5.o,.inr rfl⟩));go_upto_region 13 with (fail);refine aU (by kernel_rfl) (by kernel_rfl) ?_
   repeat (go_big_quiet_step (first | (with_reducible exact O.o _) | (with_reducible exact KR.o _)))
   refine wpQuiet_nil ?_;intro E c;have b:=iQ c;clear c O KR r0 r1 r2 r3 C B D L I G q0 c5;have b:=g.trans (b.mono g.size);have p:=qh (o.o E b);have V:=p.o.1.2.2.cell 0;have Y:=p.o.1.2.2.frozen 0;go_wp2;go_end0;exact⟨rfl,by rw[ac.o];exact (p.o.1.early 14).1,p.o.2.trans (p.o.1.early 14).2⟩
 .obtain⟨g5,Xg⟩:=fH h5;obtain⟨g3,ak⟩:=iP (h35.resolve_right h5);have H5:=qh h5;clear h5 h35;by_cases h0:kn<0
  .have a:=qh (a.o.trans (if_pos (.inl h0)));have S9:=qh (o.o r g);have V:=S9.o.1.2.1.cell 0;have Y:=S9.o.1.2.1.frozen 0;go_wp2;go_end0;exact⟨rfl,by rw[a.o];exact (S9.o.1.out_ 5).1,S9.o.2.trans (S9.o.1.out_ 5).2⟩
  obtain⟨i,X,l⟩:=wJ (N:=N) (s:=e.nm) (by rw[N7.o];exact h0);rw[N7.o] at X;subst X;have J:¬ (i:Int)<0:=by omega
  clear h0;obtain⟨ad,I1,j1,hA,-,q0,-,-,-,-,-,-,-⟩:=(U.o r g).nd_ l;have c5:r.cell? ⟨P,5,none⟩=some (ay x.AN N.length x.cn):=(U.o r g).blk.cell 5;rw[hA] at c5;obtain⟨d,M⟩:=af (N[i]);have q:jY N (i:Int)=d:=by rw[iD l,M]
  rw[q] at a;rw[M] at q0;clear M q hA;by_cases hk3:d.it.k=3;rotate_left
  .have a:=qh (a.o.trans (if_pos (.inr hk3)));obtain⟨g9,ag⟩:=fH hk3;clear hk3;have S9:=qh (o.o r g);have V:=S9.o.1.2.1.cell 0;have Y:=S9.o.1.2.1.frozen 0;go_wp2;go_end0;exact⟨rfl,by rw[a.o];exact (S9.o.1.out_ 5).1,S9.o.2.trans (S9.o.1.out_ 5).2⟩
  have a:=qh (a.o.trans (if_neg (by rintro (h | h);exact J h;exact h hk3)));obtain⟨g9,ag⟩:=iP hk3;clear hk3;have a:=qh (a.o.trans (if_neg (λ h=>H5.o h.1)));have r0:=Later.cell I;go_upto_region 13 with (fail);refine aU (by kernel_rfl) (by kernel_rfl) ?_
  repeat (go_big_quiet_step (fail))
  refine wpQuiet_nil ?_;intro E c;have b:=iQ c;clear c r0 C B D L I G q0 c5;have b:=g.trans (b.mono g.size);go_wp2;go_end0;exact⟨rfl,by rw[a.o];exact (o.o E b).1,(o.o E b).2⟩
theorem Vj {w:World} {B0 y J P M:Nat} {x:jS} {f:aI} {N:List au} {K:aY} (h:aT w B0 y J P M x f N K) {g:Nat} (I:w.cell? ⟨g,0,none⟩=some (aD (some ⟨y,0,none⟩))) (aa:g<w.heap.size) (R:gW N) {more:List bu} {AM:Option Addr} {cm B n:Nat} {e:Ex} {cs:List Value} (E:eX w w.heap.size AM more) (p:bC w B e cs) (o:B<=w.heap.size) (hn:n<N.length) :
  CS 176 #[aD (some ⟨g,0,none⟩),.agg cs.toArray,av aw n,ay AM more.length cm] w (av aw (EK N e n more)):=by
 have V:=qh p;have z:=p;obtain⟨-,-,-,-,-,-,-⟩:=z;rename_i A1 c1 A2 c2 cs;obtain⟨wb,b⟩:=aG ((((w.alloc (aE #[aD (some ⟨g,0,none⟩)] 153 (0,0))).alloc (.cells (Ag e A1 c1 A2 e.ar.length c2) 67 (0,0))).alloc (aE #[av aw n] 3 (0,0))).alloc (aE #[ay AM more.length cm] 40 (0,0)));have d:DD w wb:=b▸((((Below.refl w.heap.size w).alloc (aM _) _).alloc (by simp) _).alloc (by simp;omega) _).alloc (by simp;omega) _;have F:wb.heap.size=w.heap.size+4:=by rw[b];simp
 have H:ah wb w.heap.size 153 #[aD (some ⟨g,0,none⟩)]:=b▸(((ah.new w _ _).alloc _).alloc _).alloc _;have D:ah wb (w.heap.size+1) 67 (Ag e A1 c1 A2 e.ar.length c2):=by
  have:=(((ah.new (w.alloc (aE #[aD (some ⟨g,0,none⟩)] 153 (0,0))) 67 (Ag e A1 c1 A2 e.ar.length c2)).alloc (aE #[av aw n] 3 (0,0))).alloc (aE #[ay AM more.length cm] 40 (0,0)));rw[b];simpa using this
 have u:ah wb (w.heap.size+1+1) 3 #[av aw n]:=by
  have:=((ah.new ((w.alloc (aE #[aD (some ⟨g,0,none⟩)] 153 (0,0))).alloc (.cells (Ag e A1 c1 A2 e.ar.length c2) 67 (0,0))) 3 #[av aw n]).alloc (aE #[ay AM more.length cm] 40 (0,0)));rw[b];simpa using this
 have QG:ah wb (w.heap.size+1+1+1) 40 #[ay AM more.length cm]:=by
  have:=ah.new (((w.alloc (aE #[aD (some ⟨g,0,none⟩)] 153 (0,0))).alloc (.cells (Ag e A1 c1 A2 e.ar.length c2) 67 (0,0))).alloc (aE #[av aw n] 3 (0,0))) 40 #[ay AM more.length cm];rw[b];simpa using this
 have Y:=qh (show aiP wb B0 y J P M g w.heap.size (w.heap.size+1+1+1) (w.heap.size+1+1) x f N K more AM cm n from
  ⟨h.keep d,Below.cell_of d I,H.cell 0,QG.cell 0,u.cell 0,aF.UK (λ _ _ h=>h.up d.size) (E.keep d) d.size,hn,R⟩)
 obtain⟨W2,c⟩:=aG ((wb.alloc (aE #[av aw 0] 28 (0,0))).alloc (aE #[av aw 0] 28 (0,0)));have i:DD wb W2:=c▸((Below.refl wb.heap.size wb).alloc (aM _) _).alloc (by simp) _;have ab:W2.heap.size=wb.heap.size+2:=by rw[c];simp
 have t:=qh (show Tn wb (0,0) W2 from ⟨i,c▸(ah.new wb _ _).alloc _,by have:=ah.new (wb.alloc (aE #[av aw 0] 28 (0,0))) 28 #[av aw 0];rw[c];simpa using this⟩);have j:B<=wb.heap.size:=a1 o d.size;have m:∀ (a:Array Value) (W:World),(callFunc 214 a).run lM W = .ok (.enter 214 a) W:=λ a W=>by simp[callFunc,go_sem,func214,Tryz.f214]
 have L:=qh (show Calls lM 213 #[.agg (Ag e A1 c1 A2 e.ar.length c2),.func (.func 214) #[] #[aD (some ⟨w.heap.size,0,none⟩),aD (some ⟨w.heap.size+1+1+1,0,none⟩),aD (some ⟨wb.heap.size,0,none⟩),aD (some ⟨w.heap.size+1+1,0,none⟩),aD (some ⟨wb.heap.size+1,0,none⟩)]] W2 _ from
  Yy 214 #[aD (some ⟨w.heap.size,0,none⟩),aD (some ⟨w.heap.size+1+1+1,0,none⟩),aD (some ⟨wb.heap.size,0,none⟩),aD (some ⟨w.heap.size+1+1,0,none⟩),aD (some ⟨wb.heap.size+1,0,none⟩)] m B wb.heap.size j (Tn wb) (CJ N n more) (λ _ _ _ h _ d=>h.later d)
   (λ s e cs w p o T=>QF Y.o s e cs w (p.up j) o T) e (0,0) _ W2 (V.o.keep ((d.mono o).trans (i.mono j))) (by omega) t.o)
 have C:=qh (EK.eq_def N e n more);obtain⟨S,O⟩:=af (e.pre.foldl (CJ N n more) (0,0));rw[O] at L C;clear O m;have r:=qh (D.below i (by omega));have G:=d.trans (i.mono d.size);clear F;show Calls lM 176 #[aD (some ⟨g,0,none⟩),.agg (Ag e A1 c1 A2 e.ar.length c2),av aw n,ay AM more.length cm] w _;go_enter func176,ntmps176;go_upto_region 1 with (fail);rw[<- b];clear b;go_upto_region 2 with (fail);rw[<- c];clear c;obtain⟨iE,iF,iG,U,iI,Z,iK,Q⟩:=ah.c8 r.o;go_upto_region 3 with (go_at_call 213;(with_reducible refine L.o.mono ?_);rintro e1 w3 ⟨rfl,l,v⟩);have k:=G.trans (v.b.mono d.size);have c9:=l.2.1.cell 0;have ac:=l.2.2.cell 0;clear iE iF iG U iI Z iK Q;by_cases h0:S.1=0
 .have q:=qh (C.o.trans (if_neg (λ h=>h h0)));obtain⟨g0,A⟩:=iP h0;clear h0;go_wp2;go_ret;exact⟨aj q.o.symm,k⟩
 .have q:=qh (C.o.trans (if_pos h0));obtain⟨g0,A⟩:=fH h0;clear h0;go_wp2;go_ret;exact⟨aj q.o.symm,k⟩
end Go.Proofs.YtcnagconagpkcaaGreatDoor
