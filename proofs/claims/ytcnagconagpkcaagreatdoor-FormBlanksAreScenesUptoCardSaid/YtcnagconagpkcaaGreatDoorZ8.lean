/- Lemmas. -/
import Derived.Lib.Replace
import Derived.Lib.IndexMore
import Derived.Test.YtcnagconagpkcaaGreatDoorZ7
import Derived.Lib.Split
import Derived.Lib.TrimByte
import Derived.Lib.Strings
import Derived.Lib.Join
import Derived.Lib.Small
import Derived.Lib.AtoiAll
import Derived.Lib.SlTrimSet
open Go.Value renaming int->aa, string->ac, slice->ae, pointer->ak, bool->am
open Go.IntKind renaming i64->ab
open List renaming length_cons->ao, isPrefixOf->av, mem_cons_self->ay, length_append->aD, mem_cons_of_mem->aE, length->aM, length_pos_iff->a0, cons_append->a2, nil_append->a3, drop_append->a4, map_cons->a5, sum_cons->a6, length_tail->a8, any_cons->a9
open Nat renaming le_refl->ap, add_comm->a1, mul_succ->a7
open Go.Lib renaming join->aq, joinTail->aL
open Int renaming tdiv_eq_ediv_of_nonneg->aw, lt_trichotomy->aR, neg_tdiv->aW
open Bool renaming false_eq_true->ax, true_or->ba, false_or->bb
namespace Go.Proofs.YtcnagconagpkcaaGreatDoor.Cal
def lp (y:Int):Bool:=(decide (y % 4=0) && decide (y % 100≠0)) || decide (y % 400=0)
def N9 (y m:Int):Int:=if m=2 then (if lp y=true then 29 else 28) else if m=4\/m=6\/m=9\/m=11 then 30 else 31
def yd (y:Int):Int:=if lp y=true then 366 else 365
def base (y:Int):Int:=365*(y - 1970)+((y - 1) / 4 - (y - 1) / 100+(y - 1) / 400) - 477
def fb (y:Int):Int:=if lp y=true then 29 else 28
def FT (y m:Int):Int:=
 if m<=1 then 0 else if m=2 then 31 else if m=3 then 31+fb y else if m=4 then 62+fb y else if m=5 then 92+fb y else if m=6 then 123+fb y else
 if m=7 then 153+fb y else if m=8 then 184+fb y else if m=9 then 215+fb y else if m=10 then 245+fb y else if m=11 then 276+fb y else if m=12 then 306+fb y else 337+fb y
def num (y m d:Int):Int:=base y+FT y m+d - 1
theorem XV (y:Int):(lp y=true/\(y % 4=0/\y % 100≠0\/y % 400=0))\/(lp y=false/\¬ (y % 4=0/\y % 100≠0\/y % 400=0)):=by
 unfold lp;by_cases a:y % 4=0 <;> by_cases b:y % 100=0 <;> by_cases c:y % 400=0 <;> simp[a,b,c] <;> omega
theorem CE (y:Int):base (y+1)=base y+yd y:=by
 unfold base yd;rcases XV y with ⟨h,e⟩ | ⟨h,e⟩
 .rw[if_pos h];omega
 .rw[if_neg (by rw[h];simp)];omega
theorem CG:base 1900 = -25567:=by decide
theorem x9:base 2200=84006:=by decide
theorem mG {a b:Int} (h:a<=b):base a<=base b:=by unfold base;omega
theorem FU (y:Int):(fb y=29/\yd y=366/\lp y=true)\/(fb y=28/\yd y=365/\lp y=false):=by
 unfold fb yd;cases h:lp y <;> simp
theorem nG (y m:Int) (c:1<=m) (d:m<=12):FT y (m+1)=FT y m+N9 y m:=by
 have:m=1\/m=2\/m=3\/m=4\/m=5\/m=6\/m=7\/m=8\/m=9\/m=10\/m=11\/m=12:=by omega
 rcases FU y with ⟨b,-,a⟩ | ⟨b,-,a⟩ <;> rcases this with rfl | rfl | rfl | rfl | rfl | rfl | rfl | rfl | rfl | rfl | rfl | rfl <;> simp[FT,N9,b,a]
theorem EG (y:Int):FT y 1=0:=by simp[FT]
theorem QI (y:Int):FT y 13=yd y:=by
 rcases FU y with ⟨b,a,-⟩ | ⟨b,a,-⟩ <;> simp[FT,b,a]
theorem FV (y m:Int):28<=N9 y m/\N9 y m<=31:=by unfold N9;repeat' split <;> omega
theorem QJ (y m:Int):0<=FT y m/\FT y m<=366:=by
 rcases FU y with ⟨a,-,-⟩ | ⟨a,-,-⟩ <;> unfold FT <;> rw[a] <;> repeat' split <;> omega
theorem FW (y:Int) {a b:Int} (h:a<=b) (f:1<=a) (g:b<=13):FT y a<=FT y b:=by
 obtain⟨k,c⟩:∃ k:Nat,b=a+k:=⟨(b - a).toNat,by omega⟩;subst c;clear h
 induction k with
 | zero=>simp
 | succ k ih =>
  have e:=nG y (a+k) (by omega) (by omega);have d:=FV y (a+k);have:=ih (by omega);rw[show a+((k+1:Nat):Int)=a+k+1 from by omega];omega
theorem Tm (y:Int) (a:1600<=y) (b:y<=2400) : -136000<=base y/\base y<=158000:=by unfold base;omega
structure iw (n y m d:Int):Prop where
 m1:1<=m
 m2:m<=12
 d1:1<=d
 d2:d<=N9 y m
 eq:num y m d=n
theorem iw.year {n y m d:Int} (h:iw n y m d):base y<=n/\n<base (y+1):=by
 have f:=QJ y m;have b:=nG y m h.m1 h.m2;have c:=FW y (show m+1<=13 by have:=h.m2;omega) (by have:=h.m1;omega) (by omega);have a:=QI y;have e:=CE y;have:=h.eq;have:=h.d1;have:=h.d2;unfold num at *;omega
theorem iw.unique {n y m d y' m' d':Int} (h:iw n y m d) (c:iw n y' m' d'):y=y'/\m=m'/\d=d':=by
 have e:y=y':=by
  have a:=h.year;have b:=c.year;rcases aR y y' with l | l | l
  .have:=mG (show y+1<=y' by omega);omega
  .exact l
  .have:=mG (show y'+1<=y by omega);omega
 subst e;have f:m=m':=by
  have a:=nG y m h.m1 h.m2;have b:=nG y m' c.m1 c.m2;have:=h.eq;have:=h.d1;have:=h.d2;have:=c.eq;have:=c.d1;have:=c.d2;unfold num at *;rcases aR m m' with l | l | l
  .have:=FW y (show m+1<=m' by omega) (by have:=h.m1;omega) (by have:=c.m2;omega);omega
  .exact l
  .have:=FW y (show m'+1<=m by omega) (by have:=c.m1;omega) (by have:=h.m2;omega);omega
 subst f;refine⟨rfl,rfl,?_⟩;have:=h.eq;have:=c.eq;unfold num at *;omega
open Classical in
noncomputable def civ (n:Int):Int × Int × Int:=if h:∃ p:Int × Int × Int,iw n p.1 p.2.1 p.2.2 then Classical.choose h else (0,0,0)
theorem QK {n y m d:Int} (h:iw n y m d):civ n=(y,m,d):=by
 have a:∃ p:Int × Int × Int,iw n p.1 p.2.1 p.2.2:=⟨(y,m,d),h⟩;unfold civ;rw[dif_pos a];obtain⟨b,c,e3⟩:=(Classical.choose_spec a).unique h;exact Prod.ext b (Prod.ext c e3)
noncomputable def cy (n:Int):Int:=(civ n).1
noncomputable def cm (n:Int):Int:=(civ n).2.1
noncomputable def cd (n:Int):Int:=(civ n).2.2
theorem iw.cy {n y m d:Int} (h:iw n y m d):cy n=y:=by unfold Cal.cy;rw[QK h]
theorem iw.cm {n y m d:Int} (h:iw n y m d):cm n=m:=by unfold Cal.cm;rw[QK h]
theorem iw.cd {n y m d:Int} (h:iw n y m d):cd n=d:=by unfold Cal.cd;rw[QK h]
def Js (n:Int):Int:=if n<0 then 1970+n.tdiv 365 - 1 else 1970+n.tdiv 366
theorem XW {n:Int} (b : -25567<=n) (c:n<=84005):base (Js n)<=n/\1899<=Js n/\Js n<=2199:=by
 unfold Js;split
 .rename_i a;have e:n.tdiv 365 = -((-n) / 365):=by
   obtain⟨k,rfl⟩:∃ k:Nat,n = -(k:Int):=⟨n.natAbs,by omega⟩;rw[aW,aw (by omega)];simp
  rw[e];unfold base;omega
 .rename_i a;rw[aw (by omega)];unfold base;omega
theorem DU {n:Int} (k:Int) (a:n<0):n.tdiv k = -((-n) / k):=by
 obtain⟨j,rfl⟩:∃ j:Nat,n = -(j:Int):=⟨n.natAbs,by omega⟩;rw[aW,aw (by omega)];simp
theorem abP {n:Int} (a : -25567<=n) (b:n<=84005) : -71<=n.tdiv 365/\n.tdiv 365<=231 /\ -71<=n.tdiv 366/\n.tdiv 366<=231:=by
 by_cases hn:n<0
 .rw[DU 365 hn,DU 366 hn];omega
 .rw[aw (by omega),aw (by omega)];omega
theorem zn {n y:Int} (c : -25567<=n) (d:n<=84005) (e:base y<=n) (f:n<base (y+1)):1900<=y/\y<=2199:=by
 have a:=CG;have b:=x9;constructor
 .by_cases h:1900<=y
  .exact h
  .have:=mG (show y+1<=1900 by omega);omega
 .by_cases h:y<=2199
  .exact h
  .have:=mG (show 2200<=y by omega);omega
theorem FX {n y m:Int} (c:base y+FT y m<=n) (d:n<base y+FT y m+N9 y m) (a:1<=m) (b:m<=12):iw n y m (n - (base y+FT y m)+1):=
 ⟨a,b,by omega,by omega,by unfold num;omega⟩
theorem XX {n:Int} (j : -25567<=n) (o:n<=84005):∃ y m d,iw n y m d:=by
 have g:∀ k:Nat,∀ y,base y<=n->2200 - y=k->∃ y,base y<=n/\n<base (y+1):=by
  intro k
  induction k with
  | zero=>intro y a e;exact⟨y,a,by have:=x9;have:=mG (show 2200<=y+1 by omega);omega⟩
  | succ k ih =>
   intro y a e;by_cases h:n<base (y+1)
   .exact⟨y,a,h⟩
   .exact ih (y+1) (by omega) (by omega)
 obtain⟨y,a,l⟩:=g 300 1900 (by have:=CG;omega) (by omega);have i:∀ k:Nat,∀ m,1<=m->m<=12->base y+FT y m<=n->12 - m=k->∃ m d,iw n y m d:=by
  intro k
  induction k with
  | zero =>
   intro m b c f e;obtain rfl:m=12:=by omega
   have:=nG y 12 (by omega) (by omega);have:=QI y;have:=CE y;exact⟨12,_,FX f (by simp only[show (12:Int)+1=13 from rfl] at *;omega) (by omega) (by omega)⟩
  | succ k ih =>
   intro m b c f e;by_cases h:n<base y+FT y (m+1)
   .exact⟨m,_,FX f (by have:=nG y m b c;omega) b c⟩
   .exact ih (m+1) (by omega) (by omega) (by omega) (by omega)
 obtain⟨m,d,h⟩:=i 11 1 (by omega) (by omega) (by rw[EG];omega) (by omega);exact⟨y,m,d,h⟩
theorem Oa {n:Int} (a : -25567<=n) (b:n<=84005):iw n (cy n) (cm n) (cd n):=by
 obtain⟨y,m,d,h⟩:=XX a b;rw[h.cy,h.cm,h.cd];exact h
def lW (y m d:Int):Bool:=decide (1900<=y) && decide (y<=2199) && decide (1<=m) && decide (m<=12) && decide (1<=d) && decide (d<=N9 y m)
theorem uy (y m d:Int):lW y m d=true ↔ (1900<=y/\y<=2199)/\(1<=m/\m<=12)/\1<=d/\d<=N9 y m:=by
 simp only[lW,Bool.and_eq_true,decide_eq_true_eq];omega
theorem UQ {y m d:Int} (f:1<=m) (g:m<=12) (l:1<=d) (i:d<=N9 y m):(-25567<=num y m d/\num y m d<=84005) ↔ (1900<=y/\y<=2199):=by
 have h:iw (num y m d) y m d:=⟨f,g,l,i,rfl⟩;obtain⟨j,k⟩:=h.year;constructor
 .rintro ⟨c,e⟩;exact zn c e j k
 .rintro ⟨c,e⟩;have a:=CG;have b:=x9;have:=mG c;have:=mG (show y+1<=2200 by omega);omega
end Go.Proofs.YtcnagconagpkcaaGreatDoor.Cal
namespace Go.Proofs.YtcnagconagpkcaaGreatDoor.Vtx
open Go.Lib
def subst1 (c:UInt8) (new:List UInt8) (s:List UInt8):List UInt8:=s.flatMap λ b=>if b=c then new else [b]
def UR:List UInt8->List UInt8
 | a :: b :: r=>if a=39/\b=39 then 39 :: UR r else a :: UR (b :: r)
 | l=>l
theorem IV (old new:List UInt8) (k:Nat) (s:List UInt8) (h:index s old = -1):replaceK old new k s=s:=by
 cases k with
 | zero=>rfl
 | succ k=>unfold replaceK;rw[if_pos (by simp[h])]
theorem uz (b:UInt8) (l a:List UInt8):index (b :: l) a=if a.isPrefixOf (b :: l) then 0 else if index l a = -1 then -1 else index l a+1:=by
 rw[index];simp
theorem count_le (s a:List UInt8) (b:a≠[]):∀ f,s.length<f->∀ g,s.length<g->countFrom a f s=countFrom a g s:=by
 intro f
 induction f generalizing s with
 | zero=>intro h;omega
 | succ f ih =>
  intro h g e;cases g with
  | zero=>omega
  | succ g =>
   unfold countFrom;by_cases hi:index s a = -1
   .simp[hi]
   .have c:(index s a == -1)=false:=by simpa using hi
    have j:=index_ge s a;have i:=index_room s a (by omega);have d:0<a.length:=a0.2 b;simp only[c,ax,if_false];congr 1;exact ih _ (by simp;omega) g (by simp;omega)
theorem count_hit {s sub:List UInt8} {i:Nat} (a:sub≠[]) (h:index s sub=i):count s sub=1+count (s.drop (i+sub.length)) sub:=by
 have d:=index_room s sub (by omega);have c:0<sub.length:=a0.2 a;rw[count,countFrom];have b:(index s sub == -1)=false:=by rw[h];rw[beq_eq_false_iff_ne];omega
 simp only[b,ax,if_false];rw[h,Int.toNat_natCast];congr 1;unfold count;exact count_le _ _ a _ (by simp;omega) _ (by omega)
def CJ (old new:List UInt8):List UInt8->List UInt8:=λ s=>replaceK old new (count s old) s
theorem CO {s old new:List UInt8} (h:index s old = -1):CJ old new s=s:=IV _ _ _ _ h
theorem FY {s old new:List UInt8} {i:Nat} (a:old≠[]) (h:index s old=i):CJ old new s=s.take i ++ new ++ CJ old new (s.drop (i+old.length)):=by
 unfold CJ;rw[count_hit a h,a1,replaceK_hit _ _ _ _ _ h]
theorem lN {s old new:List UInt8} (h:old≠new):replaceAll s old new=CJ old new s:=by
 unfold replaceAll replace replaceNum CJ;rw[if_neg (by simpa using h),if_pos (by simp)]
theorem FZ {old new:List UInt8} (a:old≠[]):CJ old new [] = []:=CO (by cases old;exact absurd rfl a;rfl)
theorem Jt {old new r:List UInt8} (b:old≠[]):CJ old new (old ++ r)=new ++ CJ old new r:=by
 have h:index (old ++ r) old=(0:Nat):=by
  refine index_first (Nat.zero_le _) ?_ (λ j a=>absurd a (by omega));simp[occAt]
 rw[FY b h];simp
theorem CP {old new r:List UInt8} {b:UInt8} (d:old≠[]) (h:old.isPrefixOf (b :: r)=false):CJ old new (b :: r)=b :: CJ old new r:=by
 have a:=uz b r old;rw[h] at a;simp only[ax,if_false] at a;by_cases hr:index r old = -1
 .rw[if_pos hr] at a;rw[CO a,CO hr]
 .rw[if_neg hr] at a;obtain⟨i,c⟩:∃ i:Nat,index r old=i:=⟨(index r old).toNat,by have:=index_ge r old;omega⟩;rw[FY d (i:=i+1) (by rw[a,c];rfl),FY d c];simp[Nat.add_right_comm]
theorem DV (c:UInt8) (new s:List UInt8):CJ [c] new s=subst1 c new s:=by
 induction s with
 | nil=>exact FZ (by simp)
 | cons b r ih =>
  by_cases h:b=c
  .subst h;have:=Jt (new:=new) (r:=r) (old:=[b]) (by simp);simp only[List.singleton_append] at this;rw[this,ih];simp[subst1]
  .rw[CP (by simp) (by simp[av];exact λ e=>h e.symm),ih];simp[subst1,h]
theorem Ob (s:List UInt8):CJ [39,39] [39] s=UR s:=by
 induction s using UR.induct with
 | case1 a b r h ih =>
  obtain⟨rfl,rfl⟩:=h;have:=Jt (new:=[39]) (r:=r) (old:=[39,39]) (by simp);simp only[a2,a3] at this;rw[this,ih,UR,if_pos ⟨rfl,rfl⟩]
 | case2 a b r h ih =>
  rw[CP (by simp),ih,UR,if_neg h];simp only[av,Bool.and_true];rw[Bool.eq_false_iff];intro e;simp at e;exact h ⟨e.1.symm,e.2.symm⟩
 | case3 l h =>
  rcases l with _ | ⟨a,_ | ⟨b,r⟩⟩
  .rw[FZ (by simp)];rfl
  .rw[CP (by simp) (by simp[av]),FZ (by simp)];rfl
  .exact absurd rfl (h a b r)
theorem UT (s:List UInt8):UR (subst1 39 [39,39] s)=s:=by
 induction s with
 | nil=>rfl
 | cons b r ih =>
  by_cases h:b=39
  .subst h;have e:subst1 39 [39,39] (39 :: r)=39 :: 39 :: subst1 39 [39,39] r:=by simp[subst1]
   rw[e,UR,if_pos ⟨rfl,rfl⟩,ih]
  .have e:subst1 39 [39,39] (b :: r)=b :: subst1 39 [39,39] r:=by simp[subst1,h]
   rw[e];cases hr:subst1 39 [39,39] r with
   | nil=>rw[hr] at ih;rw[<- ih];simp[UR]
   | cons d t=>rw[UR,if_neg (by simp[h]),<- hr,ih]
theorem back (s:List UInt8):replaceAll (replaceAll s [39] [39,39]) [39,39] [39]=s:=by
 rw[lN (by simp),lN (by simp),DV,Ob,UT]
end Go.Proofs.YtcnagconagpkcaaGreatDoor.Vtx
namespace Go.Proofs.YtcnagconagpkcaaGreatDoor.Vtx
open Go.Lib Dig
def pF (w:Nat) (n:Int):List UInt8:=zeros (w - (itoa n).length) ++ itoa n
def jC (m:Int):List UInt8:=trimRightB (pF 4 m) 48
def oO (n:Int):Int:=if n<0 then -n else n
def qR (n:Int):List UInt8:=(if n<0 then [45] else []) ++ itoa (oO n / 10000) ++ (if jC (oO n % 10000) = [] then [] else 46 :: jC (oO n % 10000))
def iM (c:Int):List UInt8:=35 :: itoa c
def Az (l:List Int):List UInt8:=123 :: join (l.map iM) [44] ++ [125]
noncomputable def zo (n:Int):List UInt8:=64 :: pF 4 (Cal.cy n) ++ [45] ++ pF 2 (Cal.cm n) ++ [45] ++ pF 2 (Cal.cd n)
def w1T:List UInt8:=[100,111,110,116,107,110,111,119]
def w2T:List UInt8:=[114,101,102,117,115,101,100]
def w3T:List UInt8:=[110,111,97,110,115,119,101,114]
def qX:List UInt8:=[116,114,117,101]
def nH:List UInt8:=[102,97,108,115,101]
def XY (n:Int):List UInt8:=if n=1 then w1T else if n=2 then w2T else w3T
def Oc (s:List UInt8):List UInt8:=39 :: replaceAll s [39] [39,39] ++ [39]
noncomputable def showT (k n:Int) (s:List UInt8) (l:List Int):List UInt8:=
 if k=1 then XY n else if k=2 then qR n else if k=3 then Oc s else if k=4 then iM n else if k=5 then Az l else if k=6 then zo n else
 if k=7 then (if n=1 then qX else nH) else [45]
def gp (b:UInt8):Bool:=decide (48<=b.toNat) && decide (b.toNat<=57)
def dK (l:List UInt8):Nat × Bool:=if l = []\/15<l.length then (0,false) else if l.all gp then (eY l,true) else (0,false)
def XZ (l:List UInt8) (k:Nat):List UInt8:=l ++ zeros (k - l.length)
def jR (s:List UInt8):Option Int:=
 let d:=trimPrefix s [45];let part:=XZ (cut d [46]).2.1 4;let a:=dK (cut d [46]).1;let b:=dK part
 if a.2=true/\b.2=true/\part.length<=4/\a.1<=99999999999 then
  some (if d.length<s.length then -((a.1*10000+b.1:Nat):Int) else ((a.1*10000+b.1:Nat):Int)) else none
def oh:List (List UInt8)->Option (List Int)
 | []=>some []
 | p :: r=>if (dK (trimPrefix p [35])).2 then (oh r).map (((dK (trimPrefix p [35])).1:Int) :: ·) else none
def Gf (s:List UInt8):List UInt8:=trimSuffix (trimPrefix s [123]) [125]
def jS (s:List UInt8):Option (List Int):=if Gf s = [] then some [] else oh (split (Gf s) [44])
def jw (r:List UInt8):Option Int:=
 match split r [45] with
 | [a,b,c]=>if (dK a).2 && (dK b).2 && (dK c).2 && Cal.lW (dK a).1 (dK b).1 (dK c).1 then some (Cal.num (dK a).1 (dK b).1 (dK c).1) else none
 | _=>none
structure Q where
 k:Int
 n:Int
 s:List UInt8
 l:List Int
deriving DecidableEq
def dC (s:List UInt8):Option Q:=
 if s = [] then none else if s = [45] then some ⟨0,0,[],[]⟩ else if s=qX then some ⟨7,1,[],[]⟩ else if s=nH then some ⟨7,0,[],[]⟩ else
 if s.head?=some 39 then some ⟨3,0,replaceAll (trimSuffix s.tail [39]) [39,39] [39],[]⟩ else
 if s.head?=some 35 then (if (dK s.tail).2 then some ⟨4,(dK s.tail).1,[],[]⟩ else none) else
 if s.head?=some 123 then (jS s).map (⟨5,0,[],·⟩) else
 if s.head?=some 64 then (jw s.tail).map (⟨6,·,[],[]⟩) else
 if s=w1T then some ⟨1,1,[],[]⟩ else if s=w2T then some ⟨1,2,[],[]⟩ else if s=w3T then some ⟨1,3,[],[]⟩ else
 (jR s).map (⟨2,·,[],[]⟩)
inductive WM:Int->Int->List UInt8->List Int->Prop
 | none_:WM 0 0 [] []
 | word {n:Int} (h1:1<=n) (h2:n<=3):WM 1 n [] []
 | num {n:Int} (h1 : -999999999999999<=n) (h2:n<=999999999999999):WM 2 n [] []
 | text (s:List UInt8):WM 3 0 s []
 | code {n:Int} (h1:1<=n) (h2:n<=999):WM 4 n [] []
 | set {l:List Int} (h:∀ c∈l,1<=c/\c<=999):WM 5 0 [] l
 | day {n:Int} (h1 : -25567<=n) (h2:n<=84005):WM 6 n [] []
 | bool {n:Int} (h1:0<=n) (h2:n<=1):WM 7 n [] []
theorem lK (n:Nat):itoa (n:Int)=decDigits n:=by unfold itoa;rw[if_neg (by omega)];simp
theorem abQ {l:List UInt8} (h:∀ b∈l,dQ b):l.all gp=true:=by
 rw[List.all_eq_true];intro b a;have:=h b a;unfold dQ at this;simp[gp,this.1,this.2]
theorem Ju {l:List UInt8} (h:∀ b∈l,dQ b) (a:l≠[]) (c:l.length<=15):dK l=(eY l,true):=by
 unfold dK;rw[if_neg (by simp[a];omega),if_pos (abQ h)]
theorem KZ (n:Nat):decDigits n≠[]:=λ h=>by have:=abO n;rw[h] at this;simp at this
theorem CQ {n:Nat} (h:(decDigits n).length<=15):dK (decDigits n)=(n,true):=by rw[Ju (x8 n) (KZ n) h,FQ]
theorem EH (w n:Nat):∀ b∈pF w n,dQ b:=by
 intro b a;unfold pF at a;rw[lK] at a;rcases List.mem_append.1 a with h | h
 .exact UO _ b h
 .exact x8 n b h
theorem aeD (w n:Nat):pF w n≠[]:=by unfold pF;rw[lK];simp[KZ]
theorem abR (w n:Nat):eY (pF w n)=n:=by unfold pF;rw[lK,KY,FQ]
theorem uA {w n:Nat} (h:(decDigits n).length<=w):(pF w n).length=w:=by unfold pF;rw[lK];simp[zeros];omega
theorem yc {w n:Nat} (h:(decDigits n).length<=w) (a:w<=15):dK (pF w n)=(n,true):=by
 rw[Ju (EH w n) (aeD w n) (by rw[uA h];exact a),abR]
theorem La {l:List UInt8} (h:∀ b∈l,dQ b) {c:UInt8} (d:¬ dQ c):c ∉ l:=λ a=>d (h c a)
theorem X3:¬ dQ 45:=by unfold dQ;decide
theorem ake:¬ dQ 46:=by unfold dQ;decide
theorem akf:¬ dQ 44:=by unfold dQ;decide
theorem pG {c:UInt8}:∀ {l:List UInt8},c ∉ l->index l [c] = -1
 | [],_=>rfl
 | b :: r,h=>by
  rw[uz,pG (λ a=>h (aE _ a)),if_neg]
  .rfl
  .simp[av];exact λ e=>h (by rw[e];exact ay ..)
theorem rD {c:UInt8}:∀ {a:List UInt8} (b:List UInt8),c ∉ a->index (a ++ c :: b) [c]=a.length
 | [],b,_=>by rw[a3,uz,if_pos (by simp[av])];rfl
 | x :: r,b,h=>by
  rw[a2,uz,rD b (λ d=>h (aE _ d)),if_neg,if_neg (by omega)]
  .simp
  .simp[av];exact λ e=>h (by rw[e];exact ay ..)
theorem X5 {c:UInt8} {l:List UInt8} (h:c ∉ l):cut l [c]=(l,[],false):=by unfold cut;rw[pG h,if_neg (by decide)]
theorem aeE {c:UInt8} {a:List UInt8} (b:List UInt8) (h:c ∉ a):cut (a ++ c :: b) [c]=(a,b,true):=by
 unfold cut;rw[rD b h,if_pos (by omega)];simp[a4]
theorem Oe (a:List UInt8) (b k:Nat) (s:List UInt8) (h:index s a = -1):splitK a b k s = [s]:=by
 cases k with
 | zero=>rfl
 | succ k=>unfold splitK;simp[h]
theorem Jv {c:UInt8} {l:List UInt8} (h:c ∉ l):split l [c] = [l]:=Oe _ _ _ _ (pG h)
theorem Gg {c:UInt8} {a:List UInt8} (b:List UInt8) (h:c ∉ a):split (a ++ c :: b) [c]=a :: split b [c]:=by
 have d:=rD b h;have e:(index (a ++ c :: b) [c] == -1)=false:=by rw[d,beq_eq_false_iff_ne];omega
 unfold split;rw[count_hit (by simp) d,a1,splitK];simp only[e,ax,if_false];rw[d];simp[a4,List.drop_eq_nil_of_le]
theorem Gh {c:UInt8}:∀ {ps:List (List UInt8)},ps≠[]->(∀ p∈ps,c ∉ p)->split (join ps [c]) [c]=ps
 | [],h,_=>absurd rfl h
 | [p],_,h=>by rw[join_one];exact Jv (h p (ay ..))
 | p :: q :: r,_,h=>by
  have e:join (p :: q :: r) [c]=p ++ c :: join (q :: r) [c]:=by
   rw[join_cons,join_cons];simp[joinTail]
  rw[e,Gg _ (h p (ay ..)),Gh (by simp) (λ x a=>h x (aE _ a))]
end Go.Proofs.YtcnagconagpkcaaGreatDoor.Vtx
namespace Go.Proofs.YtcnagconagpkcaaGreatDoor
open Vtx
def iL (e:Ex):Int:=
 if e.k=1/\e.v.k=2/\e.v.n<0 then 7 else if e.k≠4 then 8 else if e.op=3 then 1 else if e.op=2 then 2 else if e.op=1 then 3 else
 if 4<=e.op/\e.op<=11 then 4 else if e.op=15\/e.op=16 then 5 else if e.op=17\/e.op=18\/e.op=19 then 6 else if e.op=20 then 7 else 8
def dS (op:Int):List UInt8:=
 if op=4 then [61] else if op=5 then [60,62] else if op=6 then [60] else if op=7 then [60,61] else if op=8 then [62] else if op=9 then [62,61] else
 if op=10 then [105,110] else if op=11 then [104,97,115] else if op=15 then [43] else if op=16 then [45] else if op=17 then [42] else if op=18 then [47] else
 if op=19 then [109,111,100] else []
def wZ:List (Int × List UInt8):=[(12,[97,110,115,119,101,114,101,100]),(13,[97,115,107,101,100]),(14,[114,101,97,115,111,110]),(21,[97,98,115]),(22,[102,108,111,111,114]),
 (23,[114,111,117,110,100]),(24,[109,105,110]),(25,[109,97,120]),(26,[105,102]),(27,[101,108,115,101]),(28,[115,105,122,101]),
 (29,[99,111,100,101]),(30,[108,111,119,101,114]),(31,[106,111,105,110]),(32,[98,101,103,105,110,115]),(33,[104,111,108,100,115]),
 (34,[121,101,97,114]),(35,[109,111,110,116,104]),(36,[100,97,121]),(37,[100,97,121,115]),(38,[97,103,101]),(39,[108,97,116,101,114])]
def vN (op:Int):List UInt8:=match wZ.find? (λ p=>decide (p.1=op)) with
 | some p=>p.2
 | none=>[]
def Lc:List (List UInt8):=[[],[115,117,109],[99,111,117,110,116],[97,110,121],[97,108,108],[108,101,97,115,116],[109,111,115,116]]
def lC (op:Int):List UInt8:=Lc.getD op.toNat []
def Ld (l:List Ex):Bool:=match l with
 | a :: _=>decide (a.k=1) && (decide (a.v.k=2) && decide (0<=a.v.n))
 | []=>false
def sF (b:Bool) (t:List UInt8):List UInt8:=if b then 40 :: (t ++ [41]) else t
mutual
noncomputable def Ex.text:Ex->List UInt8
 | .mk k op nm v ar =>
  if k=1 then showT v.k v.n v.s.data.toList v.l else if k=2 then nm.data.toList else if k=3 then [114,111,119,40] ++ nm.data.toList ++ [41] else
  if k=5 then lC op ++ [40] ++ nm.data.toList ++ [58,32] ++ (insL 0 ar).getD 0 [] ++ [41] else
  if op=3 then aq (insL 2 ar) [32,111,114,32] else if op=2 then aq (insL 3 ar) [32,97,110,100,32] else
  if op=1 then [110,111,116,32] ++ (insL 3 ar).getD 0 [] else
  if 4<=op/\op<=11 then (insL 5 ar).getD 0 [] ++ [32] ++ dS op ++ [32] ++ (insL 5 ar).getD 1 [] else
  if op=15\/op=16 then (insL 5 ar).getD 0 [] ++ [32] ++ dS op ++ [32] ++ (insL 6 ar).getD 1 [] else
  if op=17\/op=18\/op=19 then (insL 6 ar).getD 0 [] ++ [32] ++ dS op ++ [32] ++ (insL 7 ar).getD 1 [] else
  if op=20 then (if Ld ar=true then [45,40] ++ (insL 0 ar).getD 0 [] ++ [41] else [45] ++ (insL 7 ar).getD 0 []) else
  vN op ++ [40] ++ aq (insL 1 ar) [44,32] ++ [41]
noncomputable def insL (least:Int):List Ex->List (List UInt8)
 | []=>[]
 | a :: r=>sF (decide (iL a<least)) a.text :: insL least r
end
theorem text_eq (e:Ex):e.text =
  if e.k=1 then showT e.v.k e.v.n e.v.s.data.toList e.v.l else if e.k=2 then e.nm.data.toList else if e.k=3 then [114,111,119,40] ++ e.nm.data.toList ++ [41] else
  if e.k=5 then lC e.op ++ [40] ++ e.nm.data.toList ++ [58,32] ++ (insL 0 e.ar).getD 0 [] ++ [41] else
  if e.op=3 then aq (insL 2 e.ar) [32,111,114,32] else if e.op=2 then aq (insL 3 e.ar) [32,97,110,100,32] else
  if e.op=1 then [110,111,116,32] ++ (insL 3 e.ar).getD 0 [] else
  if 4<=e.op/\e.op<=11 then (insL 5 e.ar).getD 0 [] ++ [32] ++ dS e.op ++ [32] ++ (insL 5 e.ar).getD 1 [] else
  if e.op=15\/e.op=16 then (insL 5 e.ar).getD 0 [] ++ [32] ++ dS e.op ++ [32] ++ (insL 6 e.ar).getD 1 [] else
  if e.op=17\/e.op=18\/e.op=19 then (insL 6 e.ar).getD 0 [] ++ [32] ++ dS e.op ++ [32] ++ (insL 7 e.ar).getD 1 [] else
  if e.op=20 then (if Ld e.ar=true then [45,40] ++ (insL 0 e.ar).getD 0 [] ++ [41] else [45] ++ (insL 7 e.ar).getD 0 []) else
  vN e.op ++ [40] ++ aq (insL 1 e.ar) [44,32] ++ [41]:=by
 cases e;rw[Ex.text];rfl
theorem sG (b:Int):∀ ar:List Ex,insL b ar=ar.map (λ a=>sF (decide (iL a<b)) a.text)
 | []=>by simp[insL]
 | a :: r=>by rw[insL,sG b r];rfl
theorem X6 (e:Ex):1<=iL e/\iL e<=8:=by
 unfold iL
 repeat' split
 all_goals omega
theorem AA (b:List UInt8):∀ r:List (List UInt8),(aL b r).length=(r.map aM).sum+b.length*r.length
 | []=>by simp[aL]
 | a :: r=>by
  have c:=AA b r;unfold aL at *;simp only[a5,List.flatten_cons,aD,a6,ao,a7] at *;omega
theorem sH (l:List (List UInt8)) (b:List UInt8):(aq l b).length<=(l.map aM).sum+b.length*l.length:=by
 cases l with
 | nil=>rw[Lib.join_nil];simp
 | cons a r =>
  rw[Lib.join_cons,aD,AA];simp only[a5,a6,ao,a7];omega
structure Tok where
 at_:Nat
 tx:List UInt8
 touch:Bool
def bZ (p:UInt8->Bool):List UInt8->Nat
 | []=>0
 | c :: r=>if p c then bZ p r+1 else 0
def dZ:List UInt8->Nat
 | []=>0
 | [_]=>1
 | c :: d :: r=>if c≠39 then dZ (d :: r)+1 else if d=39 then dZ r+2 else 1
def oq:List UInt8->Nat
 | []=>0
 | c :: r=>if c=125 then 1 else oq r+1
def vO (c:UInt8):Bool:=gp c || decide (c=46)
def yL (c:UInt8):Bool:=gp c || decide (c=45)
def bM (c:UInt8):Bool:=decide (c=32)
def QL (c d:UInt8):Bool:=decide (c=60/\(d=62\/d=61)) || decide (c=62/\d=61)
def qY (c:UInt8) (r:List UInt8):Nat:=match r with
 | d :: _=>if QL c d then 2 else 1
 | []=>1
def dG:List UInt8->Nat
 | []=>0
 | c :: r =>
  if nN c then bZ fC r+1 else if gp c then bZ vO r+1 else if c=64 then bZ yL r+1 else if c=35 then bZ gp r+1 else
  if c=39 then dZ r+1 else if c=123 then oq r+1 else qY c r
def dL (s:List UInt8) (i:Nat):Option Tok:=
 if i+bZ bM (s.drop i)<s.length then
  some ⟨i+bZ bM (s.drop i),(s.drop (i+bZ bM (s.drop i))).take (dG (s.drop (i+bZ bM (s.drop i)))),
   decide (bZ bM (s.drop i)=0) && decide (0<i) && fC (s.getD (i - 1) 0) && fC (s.getD i 0)⟩
 else none
def toks (s:List UInt8):Nat->Nat->List Tok
 | 0,_=>[]
 | f+1,i=>match dL s i with
  | none=>[]
  | some t=>t :: toks s f (t.at_+t.tx.length)
def wordsOf (s:List UInt8) (i:Nat):List Tok:=toks s (s.length+1) i
theorem qZ (p:UInt8->Bool):∀ l,bZ p l<=l.length
 | []=>ap _
 | c :: r=>by
  rw[bZ,ao];have:=qZ p r;split <;> omega
theorem CU:∀ l,dZ l<=l.length
 | []=>ap _
 | [_]=>ap _
 | c :: d :: r=>by
  rw[dZ];have a:=CU (d :: r);have b:=CU r;simp only[ao] at *;split
  .omega
  .split <;> omega
theorem Gi:∀ l,oq l<=l.length
 | []=>ap _
 | c :: r=>by
  rw[oq,ao];have:=Gi r;split <;> omega
theorem QM (c:UInt8) (r:List UInt8):1<=qY c r/\qY c r<=r.length+1:=by
 cases r with
 | nil=>exact⟨ap _,ap _⟩
 | cons d r =>
  unfold qY;simp only[ao];split <;> omega
theorem Gj (c:UInt8) (r:List UInt8):1<=dG (c :: r)/\dG (c :: r)<=r.length+1:=by
 rw[dG];have b:=qZ fC r;have d:=qZ vO r;have f:=qZ yL r;have h:=qZ gp r;have e:=CU r;have g:=Gi r;have a:=QM c r
 repeat' split
 all_goals omega
theorem zq (l:List UInt8):dG l<=l.length:=by
 cases l with
 | nil=>exact ap _
 | cons c r=>exact (Gj c r).2
theorem DW (c:UInt8) (r:List UInt8):0<dG (c :: r):=(Gj c r).1
theorem gq {s:List UInt8} {i:Nat} {t:Tok} (h:dL s i=some t):i<=t.at_/\t.at_<s.length/\0<t.tx.length/\t.at_+t.tx.length<=s.length/\t.at_=i+bZ bM (s.drop i)/\t.tx=(s.drop t.at_).take (dG (s.drop t.at_))/\t.tx.length=dG (s.drop t.at_):=by
 unfold dL at h;split at h
 .rename_i a;injection h with h;subst h;generalize f:i+bZ bM (s.drop i)=j at a ⊢;have b:∃ c r,s.drop j=c :: r:=by
   cases e:s.drop j with
   | nil=>have:=congrArg aM e;simp at this;omega
   | cons c r=>exact⟨c,r,rfl⟩
  obtain⟨c,r,e⟩:=b;have g:=zq (s.drop j);have k:0<dG (s.drop j):=by rw[e];exact DW c r
  have l:(s.drop j).length=s.length - j:=List.length_drop;have d:((s.drop j).take (dG (s.drop j))).length=dG (s.drop j):=by rw[List.length_take];omega
  dsimp only;exact⟨by omega,a,by omega,by omega,rfl,rfl,d⟩
 .cases h
theorem Jw (s:List UInt8):∀ (f a i:Nat),s.length<f+i->s.length<a+i->toks s f i=toks s a i
 | 0,0,_,_,_=>rfl
 | 0,a+1,i,h,_=>by
  rw[toks,toks];split
  .rfl
  .rename_i t b;have:=gq b;omega
 | f+1,0,i,_,h=>by
  rw[toks,toks];split
  .rfl
  .rename_i t b;have:=gq b;omega
 | f+1,a+1,i,h,h'=>by
  rw[toks,toks];split
  .rfl
  .rename_i t b;have:=gq b;rw[Jw s f a _ (by omega) (by omega)]
theorem iF (s:List UInt8) (i:Nat):wordsOf s i=match dL s i with
  | none=>[]
  | some t=>t :: wordsOf s (t.at_+t.tx.length):=by
 unfold wordsOf;rw[toks];split
 .rfl
 .rename_i t a;have:=gq a;rw[Jw s s.length (s.length+1) _ (by omega) (by omega)]
theorem yf (s:List UInt8):∀ (f i:Nat),(toks s f i).length<=s.length - i
 | 0,_=>by simp[toks]
 | f+1,i=>by
  rw[toks];split
  .simp
  .rename_i t a;have b:=gq a;have c:=yf s f (t.at_+t.tx.length);rw[ao];omega
open Classical in
noncomputable def vP (s:List UInt8):Option Val:=if h:∃ v:Val,bG v=0/\showT v.k v.n v.s.data.toList v.l=s then some h.choose else none
def Tn (out l:List UInt8):Bool:=match out.getLast?,l with
 | some a,d :: _=>(gp a || decide (a=35)) && gp d
 | _,_=>false
def rE:Nat->List UInt8->List UInt8->List UInt8
 | 0,out,_=>out
 | _+1,out,[]=>out
 | f+1,out,c :: r=>if c≠32 then rE f (out ++ [c]) r else rE f (if Tn out (r.dropWhile bM) then out ++ [32] else out) (r.dropWhile bM)
def lX (s:List UInt8):List UInt8:=rE (s.length+1) [] s
inductive NT | or | UU | and | CV | not | sum | Eo | product | jT | minus | cO | args (o:Int) | qA (o:Int)
inductive yD | ok (es:List Ex) (l:List Tok) | err (k:Nat)
def ni (l:List Tok) (w:List UInt8):Bool:=match l with
 | t :: _=>!t.touch && decide (t.tx=w)
 | []=>false
def qB (n:Nat) (l:List Tok):Nat:=match l with
 | t :: _=>t.at_
 | []=>n
def jD:Val:=⟨0,0,⟨#[]⟩,[]⟩
def kJ (o:Int) (l:List Ex):Ex:=.mk 4 o ⟨#[]⟩ jD l
def lD (v:Val):Ex:=.mk 1 0 ⟨#[]⟩ v []
def iO (k o:Int) (nm:List UInt8) (l:List Ex):Ex:=.mk k o ⟨nm.toArray⟩ jD l
def DX (o:Int) (l:List Ex):List Ex:=match l with
 | [e]=>[e]
 | l=>[kJ o l]
def iy (a b:Int) (l:List Tok):Int:=
 if ni l [] then 0 else match ([4,5,6,7,8,9,10,11,15,16,17,18,19]:List Int).find? (λ o=>decide (a<=o) && decide (o<=b) && decide (dS o≠[]) && ni l (dS o)) with
 | some o=>o
 | none=>0
def orW:List UInt8:=[111,114]
def X7:List UInt8:=[97,110,100]
def abS:List UInt8:=[110,111,116]
def zt:List UInt8:=[114,111,119]
def Le (l:List Tok):Bool:=match l with
 | t :: u :: _=>decide (u.at_=t.at_+1) && (match u.tx with
  | c :: _=>gp c
  | []=>false)
 | _=>false
def lF (w:List UInt8):Bool:=(match w with
 | c :: _=>gp c || decide (c=64) || decide (c=35) || decide (c=39) || decide (c=123)
 | []=>false) || decide (w=qX) || decide (w=nH)
def rF (w:List UInt8):Bool:=match w with
 | c :: _=>decide (c=123)
 | []=>false
def nameB (w:List UInt8):Bool:=(match w with
 | c :: _=>nN c
 | []=>false) && !bH.contains w
def pR (t:Tok) (r:List Tok):Bool:=match r with
 | u :: _=>decide (u.tx = [40]) && decide (u.at_=t.at_+t.tx.length)
 | []=>false
def gX (w:List UInt8):Int:=match ([1,2,3,4,5,6]:List Int).find? (λ o=>decide (lC o=w)) with
 | some o=>o
 | none=>0
def lG (w:List UInt8):Int:=match wZ.find? (λ p=>decide (p.2=w)) with
 | some p=>p.1
 | none=>0
def nameAt (l:List Tok):Option (List UInt8):=match l with
 | t :: _=>if !t.touch && nameB t.tx then some t.tx else none
 | []=>none
def yD.bind (r:yD) (k:List Ex->List Tok->yD):yD:=match r with
 | .ok es l=>k es l
 | .err p=>.err p
def dR (n:Nat) (w:List UInt8) (l:List Tok) (k:List Tok->yD):yD:=if ni l w then k l.tail else .err (qB n l)
noncomputable def iP (n:Nat) (p:NT->List Ex->List Tok->yD) (nt:NT) (acc:List Ex) (l:List Tok):yD:=match nt with
 | .or=>(p .and [] l).bind λ es l1=>p .UU es l1
 | .UU=>if ni l orW then (p .and [] l.tail).bind λ es l1=>p .UU (acc ++ es) l1 else .ok (DX 3 acc) l
 | .and=>(p .not [] l).bind λ es l1=>p .CV es l1
 | .CV=>if ni l X7 then (p .not [] l.tail).bind λ es l1=>p .CV (acc ++ es) l1 else .ok (DX 2 acc) l
 | .not=>if ni l abS then (p .not [] l.tail).bind λ es l1=>.ok [kJ 1 es] l1 else
    (p .sum [] l).bind λ es l1=>if iy 4 11 l1=0 then .ok es l1 else (p .sum [] l1.tail).bind λ es2 l2=>.ok [kJ (iy 4 11 l1) (es ++ es2)] l2
 | .sum=>(p .product [] l).bind λ es l1=>p .Eo es l1
 | .Eo=>if iy 15 16 l=0 then .ok acc l else (p .product [] l.tail).bind λ es l1=>p .Eo [kJ (iy 15 16 l) (acc ++ es)] l1
 | .product=>(p .minus [] l).bind λ es l1=>p .jT es l1
 | .jT=>if iy 17 19 l=0 then .ok acc l else (p .minus [] l.tail).bind λ es l1=>p .jT [kJ (iy 17 19 l) (acc ++ es)] l1
 | .minus=>if ni l [45] then
    (if Le l then (match l with
     | t :: u :: r=>(match vP (45 :: u.tx) with
      | some v=>.ok [lD v] r
      | none=>.err t.at_)
     | _=>.err 0)
    else (p .minus [] l.tail).bind λ es l1=>.ok [kJ 20 es] l1)
    else p .cO [] l
 | .cO=>match l with
   | []=>.err n
   | t :: r =>
    if t.touch then .err t.at_ else
    if lF t.tx then (match vP (if rF t.tx then lX t.tx else t.tx) with
     | some v=>.ok [lD v] r
     | none=>.err t.at_) else
    if t.tx = [40] then (p .or [] r).bind λ es l1=>dR n [41] l1 λ l2=>.ok es l2 else
    if nameB t.tx=false then .err t.at_ else
    if pR t r=false then .ok [iO 2 0 t.tx []] r else
    if gX t.tx≠0 then (match nameAt r.tail with
     | none=>.err (qB n r.tail)
     | some nm=>dR n [58] r.tail.tail λ l1=>(p .or [] l1).bind λ es l2=>dR n [41] l2 λ l3=>.ok [iO 5 (gX t.tx) nm es] l3) else
    if lG t.tx≠0 then (p (.args (lG t.tx)) [] r.tail).bind λ es l1=>dR n [41] l1 λ l2=>.ok [kJ (lG t.tx) es] l2 else
    if t.tx=zt then (match nameAt r.tail with
     | none=>.err (qB n r.tail)
     | some nm=>dR n [41] r.tail.tail λ l1=>.ok [iO 3 0 nm []] l1) else
    .ok [iO 2 0 t.tx []] r
 | .args o=>(p .or [] l).bind λ es l1=>p (.qA o) es l1
 | .qA o=>if acc.length<(gV o).1\/(ni l [44]=true/\acc.length<(gV o).2) then dR n [44] l λ l1=>(p .or [] l1).bind λ es l2=>p (.qA o) (acc ++ es) l2 else .ok acc l
noncomputable def P (n:Nat):Nat->NT->List Ex->List Tok->yD
 | 0,_,_,_=>.err 0
 | f+1,nt,acc,l=>iP n (P n f) nt acc l
def iC:NT->Nat
 | .cO=>1
 | .minus=>2
 | .jT=>2
 | .product=>3
 | .Eo=>3
 | .sum=>4
 | .not=>5
 | .CV=>5
 | .and=>6
 | .UU=>6
 | .or=>7
 | .qA _=>7
 | .args _=>8
theorem gu {r:yD} {k:List Ex->List Tok->yD} {m:Nat} {d:List Ex} {c:List Tok} (h:r.bind k = .ok d c) (e:∀ a b,r = .ok a b->b.length<=m) (f:∀ a b,b.length<=m->k a b = .ok d c->c.length<=m):c.length<=m:=by
 cases r with
 | err p=>cases h
 | ok a b=>exact f a b (e a b rfl) h
theorem take_len {n m:Nat} {w:List UInt8} {l:List Tok} {k:List Tok->yD} {b:List Ex} {a:List Tok} (h:dR n w l k = .ok b a) (e:l.length<=m) (d:∀ c,c.length<=m->k c = .ok b a->a.length<=m):a.length<=m:=by
 unfold dR at h;split at h
 .exact d _ (by rw[a8];omega) h
 .cases h
theorem uB {l:List Tok} {m:Nat} (h:l.length<=m):l.tail.length<=m:=by rw[a8];omega
theorem Tq (n:Nat):∀ (f:Nat) (g:NT) (e:List Ex) (l:List Tok) (j:List Ex) (i:List Tok) (m:Nat),P n f g e l = .ok j i->l.length<=m->i.length<=m
 | 0,_,_,_,_,_,_,h,_=>by cases h
 | f+1,g,e,l,j,i,m,h,hm=>by
  have b:=Tq n f;have d:=uB hm;rw[P] at h;cases g <;> dsimp only[iP] at h
  case or=>exact gu h (λ _ _ h=>b _ _ _ _ _ _ h hm) (λ _ _ a h=>b _ _ _ _ _ _ h a)
  case UU =>
   split at h
   .exact gu h (λ _ _ h=>b _ _ _ _ _ _ h d) (λ _ _ a h=>b _ _ _ _ _ _ h a)
   .cases h;exact hm
  case and=>exact gu h (λ _ _ h=>b _ _ _ _ _ _ h hm) (λ _ _ a h=>b _ _ _ _ _ _ h a)
  case CV =>
   split at h
   .exact gu h (λ _ _ h=>b _ _ _ _ _ _ h d) (λ _ _ a h=>b _ _ _ _ _ _ h a)
   .cases h;exact hm
  case not =>
   split at h
   .exact gu h (λ _ _ h=>b _ _ _ _ _ _ h d) (λ _ _ a h=>by cases h;exact a)
   .refine gu h (λ _ _ h=>b _ _ _ _ _ _ h hm) (λ _ _ a h=>?_);split at h
    .cases h;exact a
    .exact gu h (λ _ _ h=>b _ _ _ _ _ _ h (uB a)) (λ _ _ a h=>by cases h;exact a)
  case sum=>exact gu h (λ _ _ h=>b _ _ _ _ _ _ h hm) (λ _ _ a h=>b _ _ _ _ _ _ h a)
  case Eo =>
   split at h
   .cases h;exact hm
   .exact gu h (λ _ _ h=>b _ _ _ _ _ _ h d) (λ _ _ a h=>b _ _ _ _ _ _ h a)
  case product=>exact gu h (λ _ _ h=>b _ _ _ _ _ _ h hm) (λ _ _ a h=>b _ _ _ _ _ _ h a)
  case jT =>
   split at h
   .cases h;exact hm
   .exact gu h (λ _ _ h=>b _ _ _ _ _ _ h d) (λ _ _ a h=>b _ _ _ _ _ _ h a)
  case minus =>
   split at h
   .split at h
    .split at h
     .split at h
      .cases h;simp only[ao] at hm;omega
      .cases h
     .cases h
    .exact gu h (λ _ _ h=>b _ _ _ _ _ _ h d) (λ _ _ a h=>by cases h;exact a)
   .exact b _ _ _ _ _ _ h hm
  case cO =>
   split at h
   .cases h
   .rename_i t r;have c:r.length<=m:=by rw[ao] at hm;omega
    split at h
    .cases h
    split at h
    .split at h
     .cases h;exact c
     .cases h
    split at h
    .exact gu h (λ _ _ h=>b _ _ _ _ _ _ h c) (λ _ _ a h=>take_len h a (λ _ a h=>by cases h;exact a))
    split at h
    .cases h
    split at h
    .cases h;exact c
    split at h
    .split at h
     .cases h
     .exact take_len h (uB (uB c)) (λ _ a h=>gu h (λ _ _ h=>b _ _ _ _ _ _ h a) (λ _ _ a h=>take_len h a (λ _ a h=>by cases h;exact a)))
    split at h
    .exact gu h (λ _ _ h=>b _ _ _ _ _ _ h (uB c)) (λ _ _ a h=>take_len h a (λ _ a h=>by cases h;exact a))
    split at h
    .split at h
     .cases h
     .exact take_len h (uB (uB c)) (λ _ a h=>by cases h;exact a)
    .cases h;exact c
  case args=>exact gu h (λ _ _ h=>b _ _ _ _ _ _ h hm) (λ _ _ a h=>b _ _ _ _ _ _ h a)
  case qA =>
   split at h
   .exact take_len h hm (λ _ a h=>gu h (λ _ _ h=>b _ _ _ _ _ _ h a) (λ _ _ a h=>b _ _ _ _ _ _ h a))
   .cases h;exact hm
noncomputable def lY (s:List UInt8):Ex × Nat × Int:=
 if 4000<s.length then (.mk 0 0 ⟨#[]⟩ jD [],0,2) else match P s.length (12*(wordsOf s 0).length+7) .or [] (wordsOf s 0) with
  | .err k=>(.mk 0 0 ⟨#[]⟩ jD [],k,10)
  | .ok _ (t :: _)=>(.mk 0 0 ⟨#[]⟩ jD [],t.at_,10)
  | .ok es []=>if dh (es.getD 0 (.mk 0 0 ⟨#[]⟩ jD []))≠0 then (.mk 0 0 ⟨#[]⟩ jD [],0,dh (es.getD 0 (.mk 0 0 ⟨#[]⟩ jD []))) else (es.getD 0 (.mk 0 0 ⟨#[]⟩ jD []),0,0)
end Go.Proofs.YtcnagconagpkcaaGreatDoor
namespace Go.Proofs.YtcnagconagpkcaaGreatDoor
structure xe where
 code:Int
 ph:List ByteArray
 al:Bool
 la:Bool
structure fD where
 nm:ByteArray
 os:List xe
structure vS where
 must:Ex
 soft:Bool
 ph:List ByteArray
structure rG where
 k:Int
 lo:Int
 hi:Int
 pl:Int
 ls:ByteArray
 only:List Ex
 sh:Bool
 rs:List Int
 need:Bool
 ch:List vS
inductive ItemD
 | mk (k:Int) (nm:ByteArray) (iff:List Ex) (ph:List ByteArray) (items:List ItemD) (sh:Bool) (cnt:List Ex) (over:ByteArray) (ans:rG) (cmp:List Ex)
namespace ItemD
def k:ItemD->Int | .mk k _ _ _ _ _ _ _ _ _=>k
def nm:ItemD->ByteArray | .mk _ nm _ _ _ _ _ _ _ _=>nm
def iff:ItemD->List Ex | .mk _ _ x _ _ _ _ _ _ _=>x
def ph:ItemD->List ByteArray | .mk _ _ _ x _ _ _ _ _ _=>x
def items:ItemD->List ItemD | .mk _ _ _ _ x _ _ _ _ _=>x
def sh:ItemD->Bool | .mk _ _ _ _ _ x _ _ _ _=>x
def cnt:ItemD->List Ex | .mk _ _ _ _ _ _ x _ _ _=>x
def over:ItemD->ByteArray | .mk _ _ _ _ _ _ _ x _ _=>x
def ans:ItemD->rG | .mk _ _ _ _ _ _ _ _ x _=>x
def cmp:ItemD->List Ex | .mk _ _ _ _ _ _ _ _ _ x=>x
end ItemD
structure bC where
 nm:ByteArray
 zW:Int
 bD:List ByteArray
 lists:List fD
 items:List ItemD
structure aj where
 it:ItemD
 par:Int
 mZ:Int
 eQ:Int
 lo:List ByteArray
def ag8:rG:=⟨0,0,0,0,⟨#[]⟩,[],false,[],false,[]⟩
def adp:aj:=⟨.mk 0 ⟨#[]⟩ [] [] [] false [] ⟨#[]⟩ ag8 [],-1,0,0,[]⟩
mutual
def ItemD.add:ItemD->List aj->Int->Int->Int->List ByteArray->List aj
 | .mk k nm iff ph items sh cnt over ans cmp,acc,par,mZ,eQ,lo =>
  kW items (acc ++ [⟨.mk k nm iff ph items sh cnt over ans cmp,par,mZ,eQ,lo⟩]) acc.length 0 (eQ+1) (if k=3 then lo ++ [nm] else lo)
def kW:List ItemD->List aj->Int->Int->Int->List ByteArray->List aj
 | [],acc,_,_,_,_=>acc
 | it :: r,acc,par,mZ,eQ,lo=>if 300<acc.length\/13<eQ then acc else kW r (it.add acc par mZ eQ lo) par (mZ+1) eQ lo
end
def aK (f:bC):List aj:=kW f.items [] (-1) 0 1 []
def ny (N:List aj) (n:Int):aj:=N.getD n.toNat adp
def jI (N:List aj) (nm:ByteArray):Int:=match N.findIdx? (λ d=>decide (d.it.nm=nm)) with
 | some i=>i
 | none=>-1
def xg (N:List aj) (nm:ByteArray):Int:=if 0<=jI N nm/\(ny N (jI N nm)).it.k≠4 then -1 else jI N nm
def Lh (N:List aj):Nat->Int->List Int
 | 0,_=>[]
 | f+1,n=>if n<0 then [] else n :: Lh N f (ny N n).par
def ups (N:List aj) (n:Int):List Int:=Lh N (n.toNat+1) n
def AO (N:List aj) (n:Int):List Int:=(ups N n).reverse
def uC (N:List aj):List Int->List Int->Bool
 | x :: xs,y :: ys=>if x=y then uC N xs ys else decide ((ny N x).par<0) || decide ((ny N (ny N x).par).it.k≠2) || !(ny N (ny N x).par).it.sh
 | _,_=>true
def je (N:List aj) (a n:Int):Bool:=decide (a<n) && uC N (AO N a) (AO N n)
def AP (N:List aj) (a n:Int):Bool:=(ups N (ny N n).par).any (λ x=>decide (x=a))
def uD (N:List aj) (n:Int):Bool:=(ups N (ny N n).par).any (λ x=>decide ((ny N x).it.k=1))
def vT (d:aj):Bool:=decide (d.it.k=4) || decide (d.it.k=5)
abbrev bu:=List (ByteArray × Int)
def kK (K:bu) (nm:ByteArray):Int:=match K.find? (λ p=>decide (p.1=nm)) with
 | some p=>p.2
 | none=>0
def Gl (K:bu) (d:aj):Int:=if d.it.k=4 then d.it.ans.k else kK K d.it.nm
def lh (K:bu) (d:aj):aG:=⟨d.it.nm,Gl K d,d.lo⟩
def di (N:List aj) (K:bu) (keep:Nat->Bool) (k:Nat):List aG:=((List.range k).filter (λ (i:Nat)=>vT (ny N (i:Nat)) && keep i)).map (λ i=>lh K (ny N (i:Nat)))
def bY (N:List aj):List aQ:=(N.filter (λ d=>decide (d.it.k=3))).map (λ d=>⟨d.it.nm,d.lo⟩)
def nU (L:List fD) (nm:ByteArray):Option fD:=L.find? (λ l=>decide (l.nm=nm))
mutual
def Ex.pre:Ex->List Ex
 | .mk k op nm v ar=>.mk k op nm v ar :: CW ar
def CW:List Ex->List Ex
 | []=>[]
 | a :: r=>a.pre ++ CW r
end
def DY (N:List aj) (n:Int) (more:List aG) (s:Int × Int) (x:Ex):Int × Int:=
 if x.k=2 then (if more.any (λ m=>decide (m.nm=x.nm)) then s else if jI N x.nm<0\/vT (ny N (jI N x.nm))=false then (5,s.2) else if je N (jI N x.nm) n=false then (s.1,14) else s)
 else if x.k=3\/x.k=5 then (if jI N x.nm<0\/(ny N (jI N x.nm)).it.k≠3 then (5,s.2) else if x.k=5/\(je N (jI N x.nm) n=false\/AP N (jI N x.nm) n=true) then (s.1,14) else s)
 else s
def Gm (N:List aj) (e:Ex) (n:Int) (more:List aG):Int:=
 if (e.pre.foldl (DY N n more) (0,0)).1≠0 then (e.pre.foldl (DY N n more) (0,0)).1 else (e.pre.foldl (DY N n more) (0,0)).2
def Jy (e:Ex) (cells:List aG) (loops:List aQ) (at_:List ByteArray):Int × Int:=
 if dh e≠0 then (0,dh e) else if bJ cells loops≠0 then (0,bJ cells loops) else if dF loops at_=false then (0,9) else e.kind cells loops at_
noncomputable def X8 (e:Ex):Int:=if dh e≠0 then dh e else if 4000<e.text.length then 2 else 0
def kL (N:List aj) (K:bu) (n:Int):List aG:=di N K (λ i=>je N i n) N.length
noncomputable def bT (N:List aj) (K:bu) (n:Int) (more:List aG) (e:Ex):Int × Int:=
 if X8 e≠0 then (0,X8 e) else if Gm N e n more≠0 then (0,Gm N e n more) else Jy e (kL N K n ++ more) (bY N) (ny N n).lo
def dM (F:Ex->Int × Int) (k:Int):List Ex->Int
 | []=>0
 | e :: r=>if (F e).2≠0 then (F e).2 else if (F e).1≠k then 8 else dM F k r
def dA (N:List aj) (K:bu) (n:Int):List aG:=if 0<=n/\(ny N n).it.k=4 then [lh K (ny N n)] else []
def qC:List UInt8->Bool->Nat->Option Nat
 | [],_,_=>none
 | c :: r,q,k=>if c=39 then qC r (!q) (k+1) else if q then qC r q (k+1) else if c=125 then some k else if c=123 then none else qC r q (k+1)
noncomputable def rH:Nat->List UInt8->Option (List Ex)
 | 0,_=>some []
 | _+1,[]=>some []
 | f+1,c :: r=>if c≠123/\c≠125 then rH f r else if r.head?=some c then rH f (r.drop 1) else if c=125 then none else
  match qC r false 0 with
  | none=>none
  | some k=>if (lY (r.take k)).2.2≠0 then none else (rH f (r.drop (k+1))).map ((lY (r.take k)).1 :: ·)
noncomputable def xh (s:ByteArray):Option (List Ex):=rH (s.size+1) s.data.toList
def rJ (F:Ex->Int × Int) (pipes:Bool):List Ex->Int
 | []=>0
 | e :: r=>if pipes=false then 10 else if (F e).2≠0 then (F e).2 else rJ F pipes r
noncomputable def Og (F:Ex->Int × Int) (pipes:Bool):List ByteArray->Int
 | []=>0
 | s :: r=>if 300<s.size then 2 else if s.data.toList.any (λ c=>aN c.toNat 32 126) then 1 else
  match xh s with
  | none=>10
  | some es=>if rJ F pipes es≠0 then rJ F pipes es else Og F pipes r
noncomputable def rM (F:Ex->Int × Int) (nl:Nat) (pipes:Bool) (p:List ByteArray):Int:=if 0<p.length/\p.length≠nl then 3 else Og F pipes p
def CX:List ByteArray->List ByteArray->Int
 | _,[]=>0
 | prev,l :: r=>if aV l.data.toList=false then 5 else if prev.any (λ p=>decide (p=l)) then 6 else CX (prev ++ [l]) r
def qE (f:bC):Int:=if aV f.nm.data.toList=false then 5 else if aN f.zW 1 9999=true then 1 else if aN f.bD.length 1 6=true then 2 else CX [] f.bD
noncomputable def xk (nl:Nat):List xe->List xe->Int
 | _,[]=>0
 | prev,o :: r=>if aN o.code 1 999=true then 1 else if prev.any (λ p=>decide (p.code=o.code)) then 6 else
  if rM (λ _=>(0,0)) nl false o.ph≠0 then rM (λ _=>(0,0)) nl false o.ph else xk nl (prev ++ [o]) r
noncomputable def CY (nl:Nat):List fD->List fD->Int
 | _,[]=>0
 | prev,l :: r=>if aV l.nm.data.toList=false then 5 else if prev.any (λ p=>decide (p.nm=l.nm)) then 6 else if aN l.os.length 1 40=true then 2 else
  if xk nl [] l.os≠0 then xk nl [] l.os else CY nl (prev ++ [l]) r
noncomputable def ou (f:bC):Int:=if 60<f.lists.length then 2 else CY f.bD.length [] f.lists
def DZ (N:List aj):Int:=if 300<N.length then 2 else if N.any (λ d=>decide (12<d.eQ) || decide (3<d.lo.length)) then 2 else 0
def Oh (a:rG):Bool:=decide (a.k=0) && decide (a.lo=0) && decide (a.hi=0) && decide (a.pl=0) && decide (a.ls=⟨#[]⟩) && decide (a.only.length=0) && !a.sh && decide (a.rs.length=0) && !a.need && decide (a.ch.length=0)
def yM (x:ItemD):Bool:=
 let spoken:=decide (x.k=1) || decide (x.k=4) || decide (x.k=6);let holds:=decide (x.k=1) || decide (x.k=2) || decide (x.k=3)
 (!spoken && decide (0<x.ph.length)) || (!holds && decide (0<x.items.length)) || (decide (x.k≠2) && x.sh) ||
 (decide (x.k≠3) && (decide (0<x.cnt.length) || decide (x.over≠⟨#[]⟩))) || (decide (x.k=3) && (decide (0<x.cnt.length) == decide (x.over≠⟨#[]⟩))) ||
 (decide (x.k≠4) && !Oh x.ans) || (decide (x.k=5) && decide (x.cmp.length≠1)) || (decide (x.k≠5) && decide (0<x.cmp.length)) ||
 decide (1<x.iff.length) || decide (1<x.cnt.length)
def IW (k:Int):Int × Int:=if k=2 then (-999999999999999,999999999999999) else if k=6 then (-25567,84005) else if k=3 then (0,200) else if k=5 then (0,40) else (0,0)
def Tt (a:rG):Bool:=
 let chosen:=decide (a.k=4) || decide (a.k=5)
 (decide (a.pl=0) || decide (a.k=2)) && (chosen || (decide (a.ls=⟨#[]⟩) && decide (a.only.length=0) && !a.sh)) && (decide (a.k≠4) || (decide (a.lo=0) && decide (a.hi=0))) && decide (a.only.length<=1)
def D5:Option Int->List Int->Int
 | _,[]=>0
 | prev,r :: l=>if (match prev with | some p=>decide (r<=p) | none=>false) then 7 else if aN r 1 3=true then 1 else D5 (some r) l
def Oi (L:List fD) (a:rG):Int:=
 if aN a.k 2 6=true then 4 else if Tt a=false then 3 else if a.hi<a.lo\/aN a.lo (IW a.k).1 (IW a.k).2=true\/aN a.hi (IW a.k).1 (IW a.k).2=true then 1 else
 if aN a.pl 0 4=true then 1 else if (nU L a.ls).isNone=true/\(a.k=4\/a.k=5) then 5 else if D5 none a.rs≠0 then D5 none a.rs else if 6<a.ch.length then 2 else 0
def vU:ByteArray:=⟨#[111,112,116,105,111,110]⟩
def qF (N:List aj) (L:List fD) (n:Nat):Int:=
 let x:=(ny N n).it;let page:=uD N n
 if aN x.k 1 6=true then 4 else if aV x.nm.data.toList=false\/x.nm=vU then 5 else if (N.take n).any (λ d=>decide (d.it.nm=x.nm)) then 6 else if yM x=true then 3 else
 if (page=true/\(x.k=1\/x.k=6))\/(page=false/\x.k=4) then 7 else if x.k=4 then Oi L x.ans else 0
def xm (N:List aj) (L:List fD):Nat->Nat->Int
 | 0,_=>0
 | f+1,n=>if n<N.length then (if qF N L n≠0 then qF N L n else xm N L f (n+1)) else 0
def jZ (N:List aj) (L:List fD):Int:=if DZ N≠0 then DZ N else xm N L (N.length+1) 0
def Tu (N:List aj) (L:List fD) (n:Int):Int:=
 let x:=(ny N n).it
 if x.over=⟨#[]⟩ then 0 else
 let q:=xg N x.over
 if q<0 then 5 else if je N q n=false then 14 else if (ny N q).it.ans.k≠5 then 8 else
 if (ny N n).lo.length<(ny N q).lo.length\/(ny N q).lo≠(ny N n).lo.take (ny N q).lo.length then 5 else
 if 20<(match nU L (ny N q).it.ans.ls with | some l=>l.os.length | none=>0) then 2 else 0
noncomputable def Jz (N:List aj) (L:List fD) (K:bu) (n:Int):Int:=
 if dM (bT N K n []) 2 (ny N n).it.cnt≠0 then dM (bT N K n []) 2 (ny N n).it.cnt else Tu N L n
noncomputable def uF (N:List aj) (K:bu) (nl:Nat) (n:Int):List vS->Int
 | []=>0
 | r :: l=>if dM (bT N K n (dA N K n)) 7 [r.must]≠0 then dM (bT N K n (dA N K n)) 7 [r.must] else
  if rM (bT N K n (dA N K n)) nl true r.ph≠0 then rM (bT N K n (dA N K n)) nl true r.ph else uF N K nl n l
noncomputable def CZ (N:List aj) (K:bu) (nl:Nat) (n:Int):Int:=
 if dM (bT N K n [⟨vU,4,[]⟩]) 7 (ny N n).it.ans.only≠0 then dM (bT N K n [⟨vU,4,[]⟩]) 7 (ny N n).it.ans.only else uF N K nl n (ny N n).it.ans.ch
noncomputable def oP (N:List aj) (L:List fD) (K:bu) (nl:Nat) (n:Int):Int × bu:=
 let x:=(ny N n).it
 if dM (bT N K n []) 7 x.iff≠0 then (dM (bT N K n []) 7 x.iff,K) else
 if rM (bT N K n (dA N K n)) nl true x.ph≠0 then (rM (bT N K n (dA N K n)) nl true x.ph,K) else
 if x.k=3 then (Jz N L K n,K) else if x.k=4 then (CZ N K nl n,K) else
 if x.k=5 then (match x.cmp with
  | []=>(0,K)
  | e :: _=>((bT N K n [] e).2,(x.nm,(bT N K n [] e).1) :: K)) else (0,K)
noncomputable def sJ (N:List aj) (L:List fD) (nl:Nat):Nat->Nat->bu->Int × bu
 | 0,_,K=>(0,K)
 | f+1,n,K=>if n<N.length then (if (oP N L K nl n).1≠0 then oP N L K nl n else sJ N L nl f (n+1) (oP N L K nl n).2) else (0,K)
noncomputable def ku (f:bC):Int × bu:=
 if qE f≠0 then (qE f,[]) else if ou f≠0 then (ou f,[]) else if jZ (aK f) f.lists≠0 then (jZ (aK f) f.lists,[]) else
 sJ (aK f) f.lists f.bD.length ((aK f).length+1) 0 []
noncomputable def eu (f:bC):Int:=(ku f).1
end Go.Proofs.YtcnagconagpkcaaGreatDoor
namespace Go.Proofs.YtcnagconagpkcaaGreatDoor
open Go.RowKit
def qG (w:World) (B:Nat) (A:Option Addr) (c:Nat) (l:List ByteArray):Prop:=bV w B A l/\l.length<=c/\l.length<=maxLen/\∀ s∈l,s.size<=maxLen
def akg (o:xe) (A:Option Addr) (c:Nat):List Value:=[aa ab o.code,ae A o.ph.length c,am o.al,am o.la]
def AQ (w:World) (B:Nat) (o:xe) (cs:List Value):Prop:=∃ A c,cs=akg o A c/\qG w B A c o.ph
def Lj (l:fD) (A:Option Addr) (c:Nat):List Value:=[ac l.nm,ae A l.os.length c]
def lZ (w:World) (B:Nat) (l:fD) (cs:List Value):Prop:=∃ A c,cs=Lj l A c/\aB AQ 4 w B A l.os/\l.os.length<=c/\l.nm.size<=maxLen
def uG (w:World) (B:Nat) (r:vS) (cs:List Value):Prop:=∃ es A c,cs=es ++ [am r.soft,ae A r.ph.length c]/\aZ w B r.must es/\qG w B A c r.ph
def X9 (a:rG) (A1:Option Addr) (c1:Nat) (A2:Option Addr) (c2:Nat) (A3:Option Addr) (c3:Nat):List Value:=
 [aa ab a.k,aa ab a.lo,aa ab a.hi,aa ab a.pl,ac a.ls,ae A1 a.only.length c1,am a.sh,ae A2 a.rs.length c2,am a.need,ae A3 a.ch.length c3]
abbrev CS (a:rG) (A1:Option Addr) (c1:Nat) (A2:Option Addr) (c2:Nat) (A3:Option Addr) (c3:Nat):Array Value:=#[aa ab a.k,aa ab a.lo,aa ab a.hi,aa ab a.pl,ac a.ls,ae A1 a.only.length c1,am a.sh,ae A2 a.rs.length c2,am a.need,ae A3 a.ch.length c3]
structure sK (w:World) (B:Nat) (a:rG) (A1:Option Addr) (c1:Nat) (A2:Option Addr) (c2:Nat) (A3:Option Addr) (c3:Nat):Prop where
 h1:aB aZ 8 w B A1 a.only
 h2:Reads w B 1 A2 a.rs.length (bI ab a.rs)
 h3:aB uG 10 w B A3 a.ch
 l1:a.only.length<=c1
 l2:a.rs.length<=c2
 l3:a.ch.length<=c3
 l4:a.rs.length<=maxLen
 l5:a.ls.size<=maxLen
def itC (x:ItemD) (A1:Option Addr) (c1:Nat) (A2:Option Addr) (c2:Nat) (A3:Option Addr) (c3:Nat) (A4:Option Addr) (c4:Nat) (A5:Option Addr) (c5:Nat) (an:List Value):List Value:=
 [aa ab x.k,ac x.nm,ae A1 x.iff.length c1,ae A2 x.ph.length c2,ae A3 x.items.length c3,am x.sh,ae A4 x.cnt.length c4,ac x.over] ++ an ++ [ae A5 x.cmp.length c5]
abbrev Ce (x:ItemD) (A1:Option Addr) (c1:Nat) (A2:Option Addr) (c2:Nat) (A3:Option Addr) (c3:Nat) (A4:Option Addr) (c4:Nat) (B1:Option Addr) (b1:Nat) (B2:Option Addr) (b2:Nat) (B3:Option Addr) (b3:Nat) (A5:Option Addr) (c5:Nat):Array Value:=#[aa ab x.k,ac x.nm,ae A1 x.iff.length c1,ae A2 x.ph.length c2,ae A3 x.items.length c3,am x.sh,ae A4 x.cnt.length c4,ac x.over,aa ab x.ans.k,aa ab x.ans.lo,aa ab x.ans.hi,aa ab x.ans.pl,ac x.ans.ls,ae B1 x.ans.only.length b1,am x.ans.sh,ae B2 x.ans.rs.length b2,am x.ans.need,ae B3 x.ans.ch.length b3,ae A5 x.cmp.length c5]
inductive gY (w:World) (B:Nat):ItemD->List Value->Prop
 | mk {x:ItemD} {A1:Option Addr} {c1:Nat} {A2:Option Addr} {c2:Nat} {A3:Option Addr} {c3:Nat} {A4:Option Addr} {c4:Nat} {A5:Option Addr} {c5:Nat} {B1:Option Addr} {b1:Nat} {B2:Option Addr} {b2:Nat} {B3:Option Addr} {b3:Nat} {cs:List Value}
   (h1:aB aZ 8 w B A1 x.iff) (h2:qG w B A2 c2 x.ph) (h4:aB aZ 8 w B A4 x.cnt) (h5:aB aZ 8 w B A5 x.cmp) (ha:sK w B x.ans B1 b1 B2 b2 B3 b3)
   (l1:x.iff.length<=c1) (l3:x.items.length<=c3) (l4:x.cnt.length<=c4) (l5:x.cmp.length<=c5) (l6:x.nm.size<=maxLen) (l7:x.over.size<=maxLen) (l8:x.items.length<=maxLen)
   (hr:Reads w B 19 A3 x.items.length cs) (hi:∀ i (h:i<x.items.length),gY w B x.items[i] ((cs.drop (i*19)).take 19)) :
   gY w B x (itC x A1 c1 A2 c2 A3 c3 A4 c4 A5 c5 (X9 x.ans B1 b1 B2 b2 B3 b3))
abbrev AU:=aB gY 19
def C9 (w:World) (B:Nat) (d:aj) (cs:List Value):Prop:=∃ wu A c,cs=wu ++ [aa ab d.par,aa ab d.mZ,aa ab d.eQ,ae A d.lo.length c]/\gY w B d.it wu/\qG w B A c d.lo
section
variable {w w':World} {B B':Nat}
theorem qG.keep {A:Option Addr} {c:Nat} {l:List ByteArray} (h:qG w B A c l) (a:Below B w w'):qG w' B A c l:=⟨h.1.below a,h.2⟩
theorem qG.up {A:Option Addr} {c:Nat} {l:List ByteArray} (h:qG w B A c l) (a:B<=B'):qG w B' A c l:=⟨h.1.more a,h.2⟩
theorem aB.QN {α:Type} {P:World->Nat->α->List Value->Prop} {size:Nat} {A:Option Addr} {l:List α} (c:∀ d cs,P w B d cs->P w B' d cs) (h:aB P size w B A l) (g:B<=B'):aB P size w B' A l:=by
 obtain⟨b,cs,e,f⟩:=h;exact⟨b,cs,e.more g,λ i a=>c _ _ (f i a)⟩
theorem AQ.keep {o:xe} {cs:List Value} (h:AQ w B o cs) (b:Below B w w'):AQ w' B o cs:=by obtain⟨A,c,e,a⟩:=h;exact⟨A,c,e,a.keep b⟩
theorem AQ.up {o:xe} {cs:List Value} (h:AQ w B o cs) (b:B<=B'):AQ w B' o cs:=by obtain⟨A,c,e,a⟩:=h;exact⟨A,c,e,a.up b⟩
theorem lZ.keep {l:fD} {cs:List Value} (h:lZ w B l cs) (a:Below B w w'):lZ w' B l cs:=by
 obtain⟨A,c,e,b,d⟩:=h;exact⟨A,c,e,b.keep (λ _ _ h=>h.keep a) a,d⟩
theorem lZ.up {l:fD} {cs:List Value} (h:lZ w B l cs) (a:B<=B'):lZ w B' l cs:=by
 obtain⟨A,c,e,b,d⟩:=h;exact⟨A,c,e,b.QN (λ _ _ h=>h.up a) a,d⟩
theorem uG.keep {r:vS} {cs:List Value} (h:uG w B r cs) (a:Below B w w'):uG w' B r cs:=by
 obtain⟨d,A,c,e,b,f⟩:=h;exact⟨d,A,c,e,b.keep a,f.keep a⟩
theorem uG.up {r:vS} {cs:List Value} (h:uG w B r cs) (a:B<=B'):uG w B' r cs:=by
 obtain⟨d,A,c,e,b,f⟩:=h;exact⟨d,A,c,e,b.up a,f.up a⟩
theorem sK.keep {a:rG} {d c f:Option Addr} {g e c3:Nat} (h:sK w B a d g c e f c3) (b:Below B w w'):sK w' B a d g c e f c3:=
 ⟨h.h1.keep (λ _ _ h=>h.keep b) b,h.h2.below b,h.h3.keep (λ _ _ h=>h.keep b) b,h.l1,h.l2,h.l3,h.l4,h.l5⟩
theorem sK.up {a:rG} {d c f:Option Addr} {g e c3:Nat} (h:sK w B a d g c e f c3) (b:B<=B'):sK w B' a d g c e f c3:=
 ⟨h.h1.QN (λ _ _ h=>h.up b) b,h.h2.more b,h.h3.QN (λ _ _ h=>h.up b) b,h.l1,h.l2,h.l3,h.l4,h.l5⟩
theorem gY.keep {x:ItemD} {cs:List Value} (h:gY w B x cs) (a:Below B w w'):gY w' B x cs:=by
 induction h with
 | mk h1 h2 h4 h5 ha l1 l3 l4 l5 l6 l7 l8 hr hi ih =>
  exact .mk (h1.keep (λ _ _ h=>h.keep a) a) (h2.keep a) (h4.keep (λ _ _ h=>h.keep a) a) (h5.keep (λ _ _ h=>h.keep a) a) (ha.keep a) l1 l3 l4 l5 l6 l7 l8 (hr.below a) ih
theorem gY.up {x:ItemD} {cs:List Value} (h:gY w B x cs) (a:B<=B'):gY w B' x cs:=by
 induction h with
 | mk h1 h2 h4 h5 ha l1 l3 l4 l5 l6 l7 l8 hr hi ih =>
  exact .mk (h1.QN (λ _ _ h=>h.up a) a) (h2.up a) (h4.QN (λ _ _ h=>h.up a) a) (h5.QN (λ _ _ h=>h.up a) a) (ha.up a) l1 l3 l4 l5 l6 l7 l8 (hr.more a) ih
theorem C9.keep {d:aj} {cs:List Value} (h:C9 w B d cs) (a:Below B w w'):C9 w' B d cs:=by
 obtain⟨g,A,c,e,b,f⟩:=h;exact⟨g,A,c,e,b.keep a,f.keep a⟩
theorem C9.up {d:aj} {cs:List Value} (h:C9 w B d cs) (a:B<=B'):C9 w B' d cs:=by
 obtain⟨g,A,c,e,b,f⟩:=h;exact⟨g,A,c,e,b.up a,f.up a⟩
end
end Go.Proofs.YtcnagconagpkcaaGreatDoor
namespace Go.Proofs.YtcnagconagpkcaaGreatDoor
def iQ (N:List aj):Prop:=∀ i (h:i<N.length),-1<=N[i].par/\N[i].par<i
theorem iQ.snoc {N:List aj} (h:iQ N) {d:aj} (b : -1<=d.par) (c:d.par<N.length):iQ (N ++ [d]):=by
 intro i a;rw[aD] at a;by_cases hl:i<N.length
 .rw[List.getElem_append_left hl];exact h i hl
 .have:i=N.length:=by simp at a;omega
  subst this;simp[b,c]
mutual
theorem ItemD.aeF:∀ (f:ItemD) (a:List aj) (b e d:Int) (c:List ByteArray),iQ a -> -1<=b->b<a.length->iQ (f.add a b e d c)/\a.length<=(f.add a b e d c).length
 | .mk k nm iff ph items sh cnt over ans cmp,a,b,e,d,c,h,h1,h2=>by
  rw[ItemD.add];have:=Ll items (a ++ [⟨.mk k nm iff ph items sh cnt over ans cmp,b,e,d,c⟩]) a.length 0 (d+1) (if k=3 then c ++ [nm] else c) (h.snoc h1 h2) (by omega) (by simp;omega);rw[aD] at this;exact⟨this.1,by have:=this.2;omega⟩
theorem Ll:∀ (l:List ItemD) (c:List aj) (d e g:Int) (f:List ByteArray),iQ c -> -1<=d->d<c.length->iQ (kW l c d e g f)/\c.length<=(kW l c d e g f).length
 | [],c,_,_,_,_,h,_,_=>by rw[kW];exact⟨h,ap _⟩
 | it :: r,c,d,e,g,f,h,h1,h2=>by
  rw[kW];split
  .exact⟨h,ap _⟩
  .obtain⟨a,b⟩:=ItemD.aeF it c d e g f h h1 h2;obtain⟨i,j⟩:=Ll r (it.add c d e g f) d (e+1) g f a h1 (by omega);exact⟨i,by omega⟩
end
theorem Ya (f:bC):iQ (aK f):=(Ll f.items [] (-1) 0 1 [] (λ i h=>by simp at h) (by omega) (by simp)).1
theorem jy {N:List aj} {i:Nat} (h:i<N.length):ny N (i:Int)=N[i]:=by simp[ny,List.getD,h]
theorem qH {N:List aj} {n:Int} (h:n<0):∀ f,Lh N f n = []
 | 0=>rfl
 | f+1=>by rw[Lh,if_pos h]
theorem Dc {N:List aj} (a:iQ N):∀ (f:Nat) (n:Int),n<N.length->n.toNat+1<=f->Lh N f n=Lh N (n.toNat+1) n
 | 0,n,_,h=>by omega
 | f+1,n,hn,h=>by
  by_cases h0:n<0
  .rw[qH h0,qH h0]
  .rw[Lh,Lh,if_neg h0,if_neg h0];obtain⟨i,rfl⟩:∃ i:Nat,n=i:=⟨n.toNat,by omega⟩;have b:i<N.length:=by omega
   obtain⟨d,c⟩:=a i b;rw[jy b];congr 1;by_cases h3:N[i].par<0
   .rw[qH h3,qH h3]
   .rw[Dc a f _ (by omega) (by omega),Dc a ((i:Int)).toNat _ (by omega) (by omega)]
theorem uH {N:List aj} {n:Int} (h:n<0):ups N n = []:=qH h _
theorem xn {N:List aj} (a:iQ N) {i:Nat} (b:i<N.length):ups N i=(i:Int) :: ups N N[i].par:=by
 obtain⟨d,c⟩:=a i b;unfold ups;rw[Lh,if_neg (by omega),jy b];congr 1;by_cases h3:N[i].par<0
 .rw[qH h3,qH h3]
 .rw[Dc a ((i:Int)).toNat _ (by omega) (by omega)]
end Go.Proofs.YtcnagconagpkcaaGreatDoor
namespace Go.Proofs.YtcnagconagpkcaaGreatDoor
open Go.RowKit
def Gn (w:World) (B0 m:Nat) (d:aj) (cs:List Value):Prop:=∃ wu A c,cs=wu ++ [aa ab d.par,aa ab d.mZ,aa ab d.eQ,ae A d.lo.length c]/\gY w B0 d.it wu/\qG w w.heap.size A c d.lo/\d.lo.length<=1000/\∀ ad,A=some ad->ad.block≠m
def uI (w:World) (B0 m:Nat) (A:Option Addr) (N:List aj):Prop:=
 N.length<=301/\(∀ ad,A=some ad->ad.block≠m)/\∃ cs,Reads w w.heap.size 23 A N.length cs/\∀ i (h:i<N.length),Gn w B0 m N[i] ((cs.drop (i*23)).take 23)
structure nM where
 AL:Option Addr
 cl:Nat
 AS:Option Addr
 cs:Nat
 AI:Option Addr
 ci:Nat
 AN:Option Addr
 cn:Nat
abbrev Bd (f:bC) (x:nM):Array Value:=#[ac f.nm,aa ab f.zW,ae x.AL f.bD.length x.cl,ae x.AS f.lists.length x.cs,ae x.AI f.items.length x.ci]
abbrev bkC (f:bC) (N:List aj) (m1 m2 m3:Nat) (x:nM):Array Value:=
 #[ac f.nm,aa ab f.zW,ae x.AL f.bD.length x.cl,ae x.AS f.lists.length x.cs,ae x.AI f.items.length x.ci,ae x.AN N.length x.cn,.map (some m1),.map (some m2),.map (some m3)]
structure mf (w:World) (B0:Nat) (f:bC) (x:nM):Prop where
 nm:f.nm.size<=maxLen
 la:qG w B0 x.AL x.cl f.bD
 ls:aB lZ 2 w B0 x.AS f.lists
 li:f.lists.length<=x.cs
 it:AU w B0 x.AI f.items
 ii:f.items.length<=x.ci
def QO (kv:List (ByteArray × Value)) (N:List aj):Prop:=∀ s,fK kv s=if jI N s<0 then none else some (aa ab (jI N s))
def Gp (w:World) (B0:Nat) (kv:List (ByteArray × Value)) (L:List fD):Prop:=∀ s,match nU L s with
 | none=>fK kv s=none
 | some l=>∃ A c,fK kv s=some (.agg (Lj l A c).toArray)/\lZ w B0 l (Lj l A c)
def abT (kv:List (ByteArray × Value)) (K:bu):Prop:=∀ s,fK kv s=(K.find? (λ p=>decide (p.1=s))).map (λ p=>.int ab p.2)
structure bF (w:World) (B0 gb m1 m2 m3:Nat) (x:nM) (f:bC) (N:List aj) (K:bu):Prop where
 blk:ah w gb 115 (bkC f N m1 m2 m3 x)
 form:mf w B0 f x
 nodes:uI w B0 m3 x.AN N
 cap:N.length<=x.cn
 by_:∃ kv,aP w m1 kv/\QO kv N
 ls:∃ kv,aP w m2 kv/\Gp w B0 kv f.lists
 kd:∃ kv,aP w m3 kv/\abT kv K
 ne:B0<=m1/\B0<=m2/\B0<=m3/\B0<=gb/\m1≠m3/\m2≠m3/\gb≠m3
 le:B0<=w.heap.size
section
variable {w w':World} {B0 m:Nat}
theorem Gn.keep {d:aj} {cs:List Value} (h:Gn w B0 m d cs) (a:IY w w') (j:B0<=w.heap.size):Gn w' B0 m d cs:=by
 obtain⟨i,A,c,e,b,f,g⟩:=h;exact⟨i,A,c,e,b.keep (a.mono j),(f.keep a).up a.size,g⟩
theorem uI.keep {A:Option Addr} {N:List aj} (h:uI w B0 m A N) (a:IY w w') (f:B0<=w.heap.size):uI w' B0 m A N:=by
 obtain⟨g,b,cs,c,d⟩:=h;exact⟨g,b,cs,(c.below a).more a.size,λ i e=>(d i e).keep a f⟩
theorem mf.keep {f:bC} {x:nM} (h:mf w B0 f x) (a:Below B0 w w'):mf w' B0 f x:=
 ⟨h.nm,h.la.keep a,h.ls.keep (λ _ _ h=>h.keep a) a,h.li,h.it.keep (λ _ _ h=>h.keep a) a,h.ii⟩
theorem Gp.keep {a:List (ByteArray × Value)} {L:List fD} (h:Gp w B0 a L) (e:Below B0 w w'):Gp w' B0 a L:=by
 intro s;have:=h s;split at this
 .exact this
 .obtain⟨A,c,b,d⟩:=this;exact⟨A,c,b,d.keep e⟩
theorem bF.keep {g e c d:Nat} {x:nM} {f:bC} {N:List aj} {K:bu} (h:bF w B0 g e c d x f N K) (a:IY w w'):bF w' B0 g e c d x f N K:=by
 obtain⟨n,i,b1⟩:=h.by_;obtain⟨m,k,b2⟩:=h.ls;obtain⟨l,j,b3⟩:=h.kd;have b:=a.mono h.le;exact⟨h.blk.below a h.blk.lt,h.form.keep b,h.nodes.keep a h.le,h.cap,⟨n,i.below a i.lt,b1⟩,⟨m,k.below a k.lt,b2.keep b⟩,⟨l,j.below a j.lt,b3⟩,h.ne,Nat.le_trans h.le a.size⟩
theorem uI.at_ {A:Option Addr} {N:List aj} (h:uI w B0 m A N) {i:Nat} (c:i<N.length) :
  ∃ ad cs,A=some ad/\ad.block<w.heap.size/\Gn w B0 m N[i] cs/\∀ j u,cs[j]?=some u->w.cell? ((ad.add (i*23)).add j)=some u:=by
 obtain⟨-,-,cs,d,b⟩:=h;obtain⟨ad,rfl,e,f⟩:=d.2 (by omega);refine⟨ad,_,rfl,e,b i c,λ j u a=>?_⟩;rw[qf];refine f _ u ?_;rw[List.getElem?_take] at a;split at a
 .rw[List.getElem?_drop] at a;exact a
 .cases a
end
end Go.Proofs.YtcnagconagpkcaaGreatDoor
namespace Go.Proofs.YtcnagconagpkcaaGreatDoor
open Go.RowKit
attribute [local go_sem ↓] Go.wp_at_zero Go.wp_at_succ
set_option maxHeartbeats 4000000
set_option maxRecDepth 100000
theorem kM (a b c:Int) (w:World) :
  KG 30 #[aa ab a,aa ab b,aa ab c] w (am (aN a b c)):=by
 by_cases h1:a<b
 .have d:=qh (mD (.inl h1):aN a b c=true);go_enter Tryz.func30,Tryz.ntmps30;go_wp2;go_ret;exact⟨au (by rw[d.o]),rfl⟩
 by_cases h2:c<a
 .have d:=qh (mD (.inr h2):aN a b c=true);go_enter Tryz.func30,Tryz.ntmps30;go_wp2;go_ret;exact⟨au (by rw[d.o]),rfl⟩
 .have d:=qh (lT (by omega) (by omega):aN a b c=false);go_enter Tryz.func30,Tryz.ntmps30;go_wp2;go_ret;exact⟨au (by rw[d.o]),rfl⟩
theorem Yb (w:World):(zeroValue 3).run Tryz.prog w = .ok (aa ab 0) w:=by kernel_rfl
theorem xq {w:World} {B0 d i j k:Nat} {x:nM} {f:bC} {N:List aj} {K:bu} (h:bF w B0 d i j k x f N K) (s:ByteArray) (m:s.size<=maxLen) :
  KG 36 #[ak (some ⟨d,0,none⟩),ac s] w (aa ab (jI N s)):=by
 obtain⟨o,c,g⟩:=h.by_;have b:=c.look Tryz.underlying112 (Yb w) m;have p:w.cell? ⟨d,6,none⟩=some (.map (some i)):=h.blk.cell 6;rw[g s] at b;obtain⟨n,a⟩:=af (jI N s);rw[a] at b ⊢;by_cases h0:n<0
 .rw[if_pos h0] at b;have l:n = -1:=by
   rw[<- a] at h0 ⊢;unfold jI at h0 ⊢;split at h0
   .omega
   .rfl
  subst l;clear h g c a h0;go_enter Tryz.func36,Tryz.ntmps36;go_wp2;go_ret;exact⟨rfl,rfl⟩
 .rw[if_neg h0] at b;clear h g c a h0;go_enter Tryz.func36,Tryz.ntmps36;go_wp2;go_ret;exact⟨rfl,rfl⟩
set_option maxHeartbeats 4000000
set_option maxRecDepth 100000
theorem AV {N:List aj} {s:ByteArray} (h:¬ jI N s<0):∃ i:Nat,jI N s=i/\i<N.length:=by
 unfold jI at h ⊢;split at h
 .rename_i i a;exact⟨i,rfl,(List.findIdx?_eq_some_iff_findIdx_eq.1 a).1⟩
 .exact absurd (by decide) h
theorem bF.nd_ {w:World} {B0 k j d g:Nat} {x:nM} {f:bC} {N:List aj} {K:bu} (h:bF w B0 k j d g x f N K) {i:Nat} (m:i<N.length) :
  ∃ ad A c,x.AN=some ad/\ad.block<w.heap.size/\w.cell? (ad.add (i*23))=some (aa ab N[i].it.k)/\w.cell? ⟨(ad.add (i*23)).block,(ad.add (i*23)).off+1,none⟩=some (ac N[i].it.nm)/\w.cell? ⟨(ad.add (i*23)).block,(ad.add (i*23)).off+5,none⟩=some (am N[i].it.sh)/\w.cell? ⟨(ad.add (i*23)).block,(ad.add (i*23)).off+8,none⟩=some (aa ab N[i].it.ans.k)/\w.cell? ⟨(ad.add (i*23)).block,(ad.add (i*23)).off+19,none⟩=some (aa ab N[i].par)/\w.cell? ⟨(ad.add (i*23)).block,(ad.add (i*23)).off+21,none⟩=some (aa ab N[i].eQ)/\w.cell? ⟨(ad.add (i*23)).block,(ad.add (i*23)).off+22,none⟩=some (ae A N[i].lo.length c)/\qG w w.heap.size A c N[i].lo:=by
 obtain⟨ad,cs,e,l,⟨n,A,c,rfl,hit,b,-,-⟩,a⟩:=h.nodes.at_ m;refine⟨ad,A,c,e,l,?_⟩;cases hit;exact⟨a 0 _ rfl,a 1 _ rfl,a 5 _ rfl,a 8 _ rfl,a 19 _ rfl,a 21 _ rfl,a 22 _ rfl,b⟩
theorem Lm {w:World} {B0 j v t u:Nat} {x:nM} {f:bC} {N:List aj} {K:bu} (h:bF w B0 j v t u x f N K) (s:ByteArray) (z:s.size<=maxLen) :
  KG 173 #[ak (some ⟨j,0,none⟩),ac s] w (aa ab (xg N s)):=by
 have g:=qh (xq h s z);have y:w.cell? ⟨j,5,none⟩=some (ae x.AN N.length x.cn):=h.blk.cell 5;have a:=qh (show xg N s=if 0<=jI N s/\(ny N (jI N s)).it.k≠4 then -1 else jI N s from rfl);by_cases h0:jI N s<0
 .have b:=qh (show xg N s=jI N s by rw[a.o,if_neg (by omega)]);obtain⟨n,d⟩:=af (jI N s);rw[d] at g b h0;rw[b.o];clear h d;go_enter Tryz.func173,Tryz.ntmps173;go_wp2_with (go_at_call 36;(with_reducible refine g.o.mono ?_);rintro p m ⟨rfl,rfl⟩);go_ret;exact⟨rfl,rfl⟩
 .obtain⟨i,d,r⟩:=AV h0;obtain⟨ad,A,c,k,-,B,-,-,-,-,-,-,-⟩:=h.nd_ r;rw[k] at y;rw[d] at g a;rw[jy r] at a;have o:=h.cap;have C:=h.nodes.1;by_cases h4:N[i].it.k=4
  .have b:=qh (show xg N s=i by rw[a.o,if_neg (λ q=>q.2 h4)]);rw[b.o];have l:(N[i].it.k != 4)=false:=by simp[h4]
   clear h k h4 a d h0;go_enter Tryz.func173,Tryz.ntmps173;go_wp2_with (go_at_call 36;(with_reducible refine g.o.mono ?_);rintro p m ⟨rfl,rfl⟩);go_ret;exact⟨rfl,rfl⟩
  .have b:=qh (show xg N s = -1 by rw[a.o,if_pos ⟨by omega,h4⟩]);rw[b.o];have l:(N[i].it.k != 4)=true:=by simpa using h4
   clear h k h4 a d h0;go_enter Tryz.func173,Tryz.ntmps173;go_wp2_with (go_at_call 36;(with_reducible refine g.o.mono ?_);rintro p m ⟨rfl,rfl⟩);go_ret;exact⟨rfl,rfl⟩
set_option maxHeartbeats 4000000
set_option maxRecDepth 100000
theorem QP {w:World} {B0 r O L M:Nat} {x:nM} {f:bC} {N:List aj} {K:bu} (h:bF w B0 r O L M x f N K) (o:iQ N)  (n:Nat) (j:n<N.length) :
  KG 114 #[ak (some ⟨r,0,none⟩),aa ab n] w (am (uD N n)):=by
 have V:w.cell? ⟨r,5,none⟩=some (ae x.AN N.length x.cn):=h.blk.cell 5;have D:=h.cap;have W:=h.nodes.1;obtain⟨ad,A,c,s,-,t,-,-,-,g,-,-,-⟩:=h.nd_ j;have Q:=qh (λ (i:Nat) (a:i<N.length)=>(show w.cell? (ad.add (i*23))=some (aa ab N[i].it.k)/\w.cell? ⟨(ad.add (i*23)).block,(ad.add (i*23)).off+19,none⟩=some (aa ab N[i].par) by
  obtain⟨u,A',c',y,-,P,-,-,-,T,-,-,-⟩:=h.nd_ a;have:u=ad:=Option.some.inj (y.symm.trans s);subst this;exact⟨P,T⟩))
 rw[s] at V;obtain⟨R,B⟩:=af (uD N n);have v:=qh B;rw[B];have G:=qh o;obtain⟨C,I⟩:=o n j;obtain⟨p,m⟩:=af (N[n].par);unfold uD at v;rw[jy j,m] at v;rw[m] at g C I;clear h s B o m;go_enter Tryz.func114,Tryz.ntmps114;go_wp2;go_loopw [5] (λ i wr=>∃ p:Int,i = aa ab p /\ -1<=p/\p<N.length/\Hid (R=(ups N p).any (λ x=>decide ((ny N x).it.k=1)))/\wr=w) (λ i _=>(intOf i+1).toNat)
 case atStart=>exact⟨p,rfl,C,by omega,qh v.o.symm,rfl⟩
 case round =>
  obtain⟨p,rfl,U,S,F,rfl⟩:=hrel;clear t g C I j;by_cases h0:p<0
  .have b:=qh (show R=false by rw[F.o,uH h0];rfl);go_wp2;go_ret;exact⟨au (by rw[b.o]),rfl⟩
  .obtain⟨i,rfl⟩:∃ i:Nat,p=i:=⟨p.toNat,by omega⟩;have a:i<N.length:=by omega
   obtain⟨t,g⟩:=Q.o i a;obtain⟨H,J⟩:=G.o i a;have d:=qh (F.o.trans (by rw[xn G.o a,a9]:_=(decide ((ny N (i:Int)).it.k=1) || (ups N N[i].par).any (λ x=>decide ((ny N x).it.k=1)))));obtain⟨k,z⟩:=af (N[i].it.k);obtain⟨q,E⟩:=af (N[i].par);rw[show (ny N (i:Int)).it.k=k from by rw[jy a,z]] at d;rw[z] at t;rw[E] at g H J d;clear z E;by_cases ht:k=1
   .have b:=qh (show R=true by rw[d.o,decide_eq_true ht,ba]);go_wp2;go_ret;exact⟨au (by rw[b.o]),rfl⟩
   .have b:=qh (show R=(ups N q).any (λ x=>decide ((ny N x).it.k=1)) by rw[d.o,decide_eq_false ht,bb]);have l:=qh (And.intro H J);go_wp2;go_roundw
    case rel=>exact⟨q,rfl,l.o.1,by have:=l.o.2;omega,b,by first | rfl | trivial⟩
    case measure =>
     have:=l.o;simp only[intOf];omega
theorem QQ {w:World} {B0 r P M O:Nat} {x:nM} {f:bC} {N:List aj} {K:bu} (h:bF w B0 r P M O x f N K) (o:iQ N) (a:Int) (n:Nat) (j:n<N.length) :
  KG 217 #[ak (some ⟨r,0,none⟩),aa ab a,aa ab n] w (am (AP N a n)):=by
 have W:w.cell? ⟨r,5,none⟩=some (ae x.AN N.length x.cn):=h.blk.cell 5;have D:=h.cap;have X:=h.nodes.1;obtain⟨ad,A,c,s,-,u,-,-,-,g,-,-,-⟩:=h.nd_ j;have S:=qh (λ (i:Nat) (b:i<N.length)=>(show w.cell? (ad.add (i*23))=some (aa ab N[i].it.k)/\w.cell? ⟨(ad.add (i*23)).block,(ad.add (i*23)).off+19,none⟩=some (aa ab N[i].par) by
  obtain⟨v,A',c',z,-,Q,-,-,-,U,-,-,-⟩:=h.nd_ b;have:v=ad:=Option.some.inj (z.symm.trans s);subst this;exact⟨Q,U⟩))
 rw[s] at W;obtain⟨R,B⟩:=af (AP N a n);have y:=qh B;rw[B];have G:=qh o;obtain⟨C,I⟩:=o n j;obtain⟨p,m⟩:=af (N[n].par);unfold AP at y;rw[jy j,m] at y;rw[m] at g C I;clear h s B o m;go_enter Tryz.func217,Tryz.ntmps217;go_wp2;go_loopw [2] (λ i wr=>∃ p:Int,i = aa ab p /\ -1<=p/\p<N.length/\Hid (R=(ups N p).any (λ x=>decide (x=a)))/\wr=w) (λ i _=>(intOf i+1).toNat)
 case atStart=>exact⟨p,rfl,C,by omega,qh y.o.symm,rfl⟩
 case round =>
  obtain⟨p,rfl,V,T,F,rfl⟩:=hrel;clear u g C I j;by_cases h0:p<0
  .have d:=qh (show R=false by rw[F.o,uH h0];rfl);go_wp2;go_ret;exact⟨au (by rw[d.o]),rfl⟩
  .obtain⟨i,rfl⟩:∃ i:Nat,p=i:=⟨p.toNat,by omega⟩;have b:i<N.length:=by omega
   obtain⟨u,g⟩:=S.o i b;obtain⟨H,J⟩:=G.o i b;have t:=qh (F.o.trans (by rw[xn G.o b,a9]:_=(decide ((i:Int)=a) || (ups N N[i].par).any (λ x=>decide (x=a)))));obtain⟨k,L⟩:=af (N[i].it.k);obtain⟨q,E⟩:=af (N[i].par)
   skip
   rw[L] at u;rw[E] at g H J t;clear L E;by_cases ht:(i:Int)=a
   .have d:=qh (show R=true by rw[t.o,decide_eq_true ht,ba]);go_wp2;go_ret;exact⟨au (by rw[d.o]),rfl⟩
   .have d:=qh (show R=(ups N q).any (λ x=>decide (x=a)) by rw[t.o,decide_eq_false ht,bb]);have l:=qh (And.intro H J);go_wp2;go_roundw
    case rel=>exact⟨q,rfl,l.o.1,by have:=l.o.2;omega,d,by first | rfl | trivial⟩
    case measure =>
     have:=l.o;simp only[intOf];omega
end Go.Proofs.YtcnagconagpkcaaGreatDoor
