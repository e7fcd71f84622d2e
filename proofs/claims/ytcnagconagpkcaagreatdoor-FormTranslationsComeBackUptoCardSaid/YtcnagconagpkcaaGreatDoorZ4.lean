/- Lemmas. -/
import Derived.Test.YtcnagconagpkcaaGreatDoorZ3
import Derived.Lib.Split
import Derived.Lib.TrimByte
import Derived.Lib.Strings
import Derived.Lib.Join
import Derived.Lib.Small
import Derived.Lib.AtoiAll
import Derived.Lib.SlTrimSet
open Go.Value renaming int->ak, string->ao, slice->ap, pointer->aq, bool->av, int->aM
open Go.IntKind renaming i64->am
open List renaming length_cons->aw, length_append->aL, mem_cons_self->aR, length_reverse->aV, mem_cons_of_mem->aZ, isPrefixOf->a0, drop_eq_nil_of_le->a1, length->a3, getElem?_take->a4, drop_append->a6, map_cons->a7, sum_cons->a8, length_tail->ba, any_cons->bb, getElem?_map->bc, drop_eq_getElem_cons->bd
open Nat renaming le_refl->aD, mul_one->a5, mul_succ->a9
open Go.Lib renaming join->aE, joinTail->a2
set_option maxHeartbeats 4000000
set_option maxRecDepth 100000
namespace Go.Proofs.YtcnagconagpkcaaGreatDoor
open Tryz
open Tryz renaming prog->lM
namespace Vtx
open Go.Lib Dig
def nR (w:Nat) (n:Int):List UInt8:=zeros (w - (itoa n).length) ++ itoa n
def ja (m:Int):List UInt8:=trimRightB (nR 4 m) 48
def nD (n:Int):Int:=if n<0 then -n else n
def pY (n:Int):List UInt8:=(if n<0 then [45] else []) ++ itoa (nD n / 10000) ++ (if ja (nD n % 10000) = [] then [] else 46 :: ja (nD n % 10000))
def gV (c:Int):List UInt8:=35 :: itoa c
def yR (l:List Int):List UInt8:=123 :: join (l.map gV) [44] ++ [125]
noncomputable def xX (n:Int):List UInt8:=64 :: nR 4 (Cal.cy n) ++ [45] ++ nR 2 (Cal.cm n) ++ [45] ++ nR 2 (Cal.cd n)
def w1T:List UInt8:=[100,111,110,116,107,110,111,119]
def w2T:List UInt8:=[114,101,102,117,115,101,100]
def w3T:List UInt8:=[110,111,97,110,115,119,101,114]
def ql:List UInt8:=[116,114,117,101]
def lK:List UInt8:=[102,97,108,115,101]
def XQ (n:Int):List UInt8:=if n=1 then w1T else if n=2 then w2T else w3T
def Nj (s:List UInt8):List UInt8:=39 :: replaceAll s [39] [39,39] ++ [39]
noncomputable def showT (k n:Int) (s:List UInt8) (l:List Int):List UInt8:=
 if k=1 then XQ n else if k=2 then pY n else if k=3 then Nj s else if k=4 then gV n else if k=5 then yR l else if k=6 then xX n else
 if k=7 then (if n=1 then ql else lK) else [45]
def fQ (b:UInt8):Bool:=decide (48<=b.toNat) && decide (b.toNat<=57)
def dD (l:List UInt8):Nat × Bool:=if l = []\/15<l.length then (0,false) else if l.all fQ then (dO l,true) else (0,false)
def XR (l:List UInt8) (k:Nat):List UInt8:=l ++ zeros (k - l.length)
def jg (s:List UInt8):Option Int:=
 let d:=trimPrefix s [45];let part:=XR (cut d [46]).2.1 4;let a:=dD (cut d [46]).1;let b:=dD part
 if a.2=true/\b.2=true/\part.length<=4/\a.1<=99999999999 then
  some (if d.length<s.length then -((a.1*10000+b.1:Nat):Int) else ((a.1*10000+b.1:Nat):Int)) else none
def mi:List (List UInt8)->Option (List Int)
 | []=>some []
 | p :: r=>if (dD (trimPrefix p [35])).2 then (mi r).map (((dD (trimPrefix p [35])).1:Int) :: ·) else none
def EE (s:List UInt8):List UInt8:=trimSuffix (trimPrefix s [123]) [125]
def jh (s:List UInt8):Option (List Int):=if EE s = [] then some [] else mi (split (EE s) [44])
def iU (r:List UInt8):Option Int:=
 match split r [45] with
 | [a,b,c]=>if (dD a).2 && (dD b).2 && (dD c).2 && Cal.kK (dD a).1 (dD b).1 (dD c).1 then some (Cal.num (dD a).1 (dD b).1 (dD c).1) else none
 | _=>none
structure Q where
 k:Int
 n:Int
 s:List UInt8
 l:List Int
deriving DecidableEq
def bW (s:List UInt8):Option Q:=
 if s = [] then none else if s = [45] then some ⟨0,0,[],[]⟩ else if s=ql then some ⟨7,1,[],[]⟩ else if s=lK then some ⟨7,0,[],[]⟩ else
 if s.head?=some 39 then some ⟨3,0,replaceAll (trimSuffix s.tail [39]) [39,39] [39],[]⟩ else
 if s.head?=some 35 then (if (dD s.tail).2 then some ⟨4,(dD s.tail).1,[],[]⟩ else none) else
 if s.head?=some 123 then (jh s).map (⟨5,0,[],·⟩) else
 if s.head?=some 64 then (iU s.tail).map (⟨6,·,[],[]⟩) else
 if s=w1T then some ⟨1,1,[],[]⟩ else if s=w2T then some ⟨1,2,[],[]⟩ else if s=w3T then some ⟨1,3,[],[]⟩ else
 (jg s).map (⟨2,·,[],[]⟩)
inductive Xf:Int->Int->List UInt8->List Int->Prop
 | none_:Xf 0 0 [] []
 | word {n:Int} (h1:1<=n) (h2:n<=3):Xf 1 n [] []
 | num {n:Int} (h1 : -999999999999999<=n) (h2:n<=999999999999999):Xf 2 n [] []
 | text (s:List UInt8):Xf 3 0 s []
 | code {n:Int} (h1:1<=n) (h2:n<=999):Xf 4 n [] []
 | set {l:List Int} (h:∀ c∈l,1<=c/\c<=999):Xf 5 0 [] l
 | day {n:Int} (h1 : -25567<=n) (h2:n<=84005):Xf 6 n [] []
 | bool {n:Int} (h1:0<=n) (h2:n<=1):Xf 7 n [] []
theorem ku (n:Nat):itoa (n:Int)=decDigits n:=by unfold itoa;rw[if_neg (by omega)];simp
theorem ab4 {l:List UInt8} (h:∀ b∈l,dF b):l.all fQ=true:=by
 rw[List.all_eq_true];intro b a;have:=h b a;unfold dF at this;simp[fQ,this.1,this.2]
theorem Iq {l:List UInt8} (h:∀ b∈l,dF b) (a:l≠[]) (c:l.length<=15):dD l=(dO l,true):=by
 unfold dD;rw[if_neg (by simp[a];omega),if_pos (ab4 h)]
theorem Jz (n:Nat):decDigits n≠[]:=λ h=>by have:=ab2 n;rw[h] at this;simp at this
theorem AQ {n:Nat} (h:(decDigits n).length<=15):dD (decDigits n)=(n,true):=by rw[Iq (wB n) (Jz n) h,sG]
theorem DK (w n:Nat):∀ b∈nR w n,dF b:=by
 intro b a;unfold nR at a;rw[ku] at a;rcases List.mem_append.1 a with h | h
 .exact UF _ b h
 .exact wB n b h
theorem aeW (w n:Nat):nR w n≠[]:=by unfold nR;rw[ku];simp[Jz]
theorem ab5 (w n:Nat):dO (nR w n)=n:=by unfold nR;rw[ku,Jy,sG]
theorem sK {w n:Nat} (h:(decDigits n).length<=w):(nR w n).length=w:=by unfold nR;rw[ku];simp[zeros];omega
theorem wE {w n:Nat} (h:(decDigits n).length<=w) (a:w<=15):dD (nR w n)=(n,true):=by
 rw[Iq (DK w n) (aeW w n) (by rw[sK h];exact a),ab5]
theorem JA {l:List UInt8} (h:∀ b∈l,dF b) {c:UInt8} (d:¬ dF c):c ∉ l:=λ a=>d (h c a)
theorem XT:¬ dF 45:=by unfold dF;decide
theorem al7:¬ dF 46:=by unfold dF;decide
theorem al8:¬ dF 44:=by unfold dF;decide
theorem nS {c:UInt8}:∀ {l:List UInt8},c ∉ l->index l [c] = -1
 | [],_=>rfl
 | b :: r,h=>by
  rw[sJ,nS (λ a=>h (aZ _ a)),if_neg]
  .rfl
  .simp[a0];exact λ e=>h (by rw[e];exact aR ..)
theorem qH {c:UInt8}:∀ {a:List UInt8} (b:List UInt8),c ∉ a->index (a ++ c :: b) [c]=a.length
 | [],b,_=>by rw[List.nil_append,sJ,if_pos (by simp[a0])];rfl
 | x :: r,b,h=>by
  rw[List.cons_append,sJ,qH b (λ d=>h (aZ _ d)),if_neg,if_neg (by omega)]
  .simp
  .simp[a0];exact λ e=>h (by rw[e];exact aR ..)
theorem yS {c:UInt8} {l:List UInt8} (h:c ∉ l):cut l [c]=(l,[],false):=by unfold cut;rw[nS h,if_neg (by decide)]
theorem sN {c:UInt8} {a:List UInt8} (b:List UInt8) (h:c ∉ a):cut (a ++ c :: b) [c]=(a,b,true):=by
 unfold cut;rw[qH b h,if_pos (by omega)];simp[a6]
theorem Nl (a:List UInt8) (b k:Nat) (s:List UInt8) (h:index s a = -1):splitK a b k s = [s]:=by
 cases k with
 | zero=>rfl
 | succ k=>unfold splitK;simp[h]
theorem Ir {c:UInt8} {l:List UInt8} (h:c ∉ l):split l [c] = [l]:=Nl _ _ _ _ (nS h)
theorem EF {c:UInt8} {a:List UInt8} (b:List UInt8) (h:c ∉ a):split (a ++ c :: b) [c]=a :: split b [c]:=by
 have d:=qH b h;have e:(index (a ++ c :: b) [c] == -1)=false:=by rw[d,beq_eq_false_iff_ne];omega
 unfold split;rw[count_hit (by simp) d,Nat.add_comm,splitK];simp only[e,Bool.false_eq_true,if_false];rw[d];simp[a6,a1]
theorem EG {c:UInt8}:∀ {ps:List (List UInt8)},ps≠[]->(∀ p∈ps,c ∉ p)->split (join ps [c]) [c]=ps
 | [],h,_=>absurd rfl h
 | [p],_,h=>by rw[join_one];exact Ir (h p (aR ..))
 | p :: q :: r,_,h=>by
  have e:join (p :: q :: r) [c]=p ++ c :: join (q :: r) [c]:=by
   rw[join_cons,join_cons];simp[joinTail]
  rw[e,EF _ (h p (aR ..)),EG (by simp) (λ x a=>h x (aZ _ a))]
end Vtx
section
open Vtx
def gQ (e:Ex):Int:=
 if e.k=1/\e.v.k=2/\e.v.n<0 then 7 else if e.k≠4 then 8 else if e.op=3 then 1 else if e.op=2 then 2 else if e.op=1 then 3 else
 if 4<=e.op/\e.op<=11 then 4 else if e.op=15\/e.op=16 then 5 else if e.op=17\/e.op=18\/e.op=19 then 6 else if e.op=20 then 7 else 8
def dH (op:Int):List UInt8:=
 if op=4 then [61] else if op=5 then [60,62] else if op=6 then [60] else if op=7 then [60,61] else if op=8 then [62] else if op=9 then [62,61] else
 if op=10 then [105,110] else if op=11 then [104,97,115] else if op=15 then [43] else if op=16 then [45] else if op=17 then [42] else if op=18 then [47] else
 if op=19 then [109,111,100] else []
def uS:List (Int × List UInt8):=[(12,[97,110,115,119,101,114,101,100]),(13,[97,115,107,101,100]),(14,[114,101,97,115,111,110]),(21,[97,98,115]),(22,[102,108,111,111,114]),
 (23,[114,111,117,110,100]),(24,[109,105,110]),(25,[109,97,120]),(26,[105,102]),(27,[101,108,115,101]),(28,[115,105,122,101]),
 (29,[99,111,100,101]),(30,[108,111,119,101,114]),(31,[106,111,105,110]),(32,[98,101,103,105,110,115]),(33,[104,111,108,100,115]),
 (34,[121,101,97,114]),(35,[109,111,110,116,104]),(36,[100,97,121]),(37,[100,97,121,115]),(38,[97,103,101]),(39,[108,97,116,101,114])]
def uz (op:Int):List UInt8:=match uS.find? (λ p=>decide (p.1=op)) with
 | some p=>p.2
 | none=>[]
def JB:List (List UInt8):=[[],[115,117,109],[99,111,117,110,116],[97,110,121],[97,108,108],[108,101,97,115,116],[109,111,115,116]]
def jV (op:Int):List UInt8:=JB.getD op.toNat []
def JC (l:List Ex):Bool:=match l with
 | a :: _=>decide (a.k=1) && (decide (a.v.k=2) && decide (0<=a.v.n))
 | []=>false
def rf (b:Bool) (t:List UInt8):List UInt8:=if b then 40 :: (t ++ [41]) else t
mutual
noncomputable def Ex.text:Ex->List UInt8
 | .mk k op nm v ar =>
  if k=1 then showT v.k v.n v.s.data.toList v.l else if k=2 then nm.data.toList else if k=3 then [114,111,119,40] ++ nm.data.toList ++ [41] else
  if k=5 then jV op ++ [40] ++ nm.data.toList ++ [58,32] ++ (insL 0 ar).getD 0 [] ++ [41] else
  if op=3 then aE (insL 2 ar) [32,111,114,32] else if op=2 then aE (insL 3 ar) [32,97,110,100,32] else
  if op=1 then [110,111,116,32] ++ (insL 3 ar).getD 0 [] else
  if 4<=op/\op<=11 then (insL 5 ar).getD 0 [] ++ [32] ++ dH op ++ [32] ++ (insL 5 ar).getD 1 [] else
  if op=15\/op=16 then (insL 5 ar).getD 0 [] ++ [32] ++ dH op ++ [32] ++ (insL 6 ar).getD 1 [] else
  if op=17\/op=18\/op=19 then (insL 6 ar).getD 0 [] ++ [32] ++ dH op ++ [32] ++ (insL 7 ar).getD 1 [] else
  if op=20 then (if JC ar=true then [45,40] ++ (insL 0 ar).getD 0 [] ++ [41] else [45] ++ (insL 7 ar).getD 0 []) else
  uz op ++ [40] ++ aE (insL 1 ar) [44,32] ++ [41]
noncomputable def insL (least:Int):List Ex->List (List UInt8)
 | []=>[]
 | a :: r=>rf (decide (gQ a<least)) a.text :: insL least r
end
theorem text_eq (e:Ex):e.text =
  if e.k=1 then showT e.v.k e.v.n e.v.s.data.toList e.v.l else if e.k=2 then e.nm.data.toList else if e.k=3 then [114,111,119,40] ++ e.nm.data.toList ++ [41] else
  if e.k=5 then jV e.op ++ [40] ++ e.nm.data.toList ++ [58,32] ++ (insL 0 e.ar).getD 0 [] ++ [41] else
  if e.op=3 then aE (insL 2 e.ar) [32,111,114,32] else if e.op=2 then aE (insL 3 e.ar) [32,97,110,100,32] else
  if e.op=1 then [110,111,116,32] ++ (insL 3 e.ar).getD 0 [] else
  if 4<=e.op/\e.op<=11 then (insL 5 e.ar).getD 0 [] ++ [32] ++ dH e.op ++ [32] ++ (insL 5 e.ar).getD 1 [] else
  if e.op=15\/e.op=16 then (insL 5 e.ar).getD 0 [] ++ [32] ++ dH e.op ++ [32] ++ (insL 6 e.ar).getD 1 [] else
  if e.op=17\/e.op=18\/e.op=19 then (insL 6 e.ar).getD 0 [] ++ [32] ++ dH e.op ++ [32] ++ (insL 7 e.ar).getD 1 [] else
  if e.op=20 then (if JC e.ar=true then [45,40] ++ (insL 0 e.ar).getD 0 [] ++ [41] else [45] ++ (insL 7 e.ar).getD 0 []) else
  uz e.op ++ [40] ++ aE (insL 1 e.ar) [44,32] ++ [41]:=by
 cases e;rw[Ex.text];rfl
theorem rq (b:Int):∀ ar:List Ex,insL b ar=ar.map (λ a=>rf (decide (gQ a<b)) a.text)
 | []=>by simp[insL]
 | a :: r=>by rw[insL,rq b r];rfl
theorem XU (e:Ex):1<=gQ e/\gQ e<=8:=by
 unfold gQ
 repeat' split
 all_goals omega
theorem yT (b:List UInt8):∀ r:List (List UInt8),(a2 b r).length=(r.map a3).sum+b.length*r.length
 | []=>by simp[a2]
 | a :: r=>by
  have c:=yT b r;unfold a2 at *;simp only[a7,List.flatten_cons,aL,a8,aw,a9] at *;omega
theorem ru (l:List (List UInt8)) (b:List UInt8):(aE l b).length<=(l.map a3).sum+b.length*l.length:=by
 cases l with
 | nil=>rw[Lib.join_nil];simp
 | cons a r =>
  rw[Lib.join_cons,aL,yT];simp only[a7,a8,aw,a9];omega
structure Tok where
 at_:Nat
 tx:List UInt8
 touch:Bool
def bQ (p:UInt8->Bool):List UInt8->Nat
 | []=>0
 | c :: r=>if p c then bQ p r+1 else 0
def dM:List UInt8->Nat
 | []=>0
 | [_]=>1
 | c :: d :: r=>if c≠39 then dM (d :: r)+1 else if d=39 then dM r+2 else 1
def mr:List UInt8->Nat
 | []=>0
 | c :: r=>if c=125 then 1 else mr r+1
def uA (c:UInt8):Bool:=fQ c || decide (c=46)
def xI (c:UInt8):Bool:=fQ c || decide (c=45)
def bF (c:UInt8):Bool:=decide (c=32)
def Qk (c d:UInt8):Bool:=decide (c=60/\(d=62\/d=61)) || decide (c=62/\d=61)
def qm (c:UInt8) (r:List UInt8):Nat:=match r with
 | d :: _=>if Qk c d then 2 else 1
 | []=>1
def dh:List UInt8->Nat
 | []=>0
 | c :: r =>
  if rW c then bQ gp r+1 else if fQ c then bQ uA r+1 else if c=64 then bQ xI r+1 else if c=35 then bQ fQ r+1 else
  if c=39 then dM r+1 else if c=123 then mr r+1 else qm c r
def dE (s:List UInt8) (i:Nat):Option Tok:=
 if i+bQ bF (s.drop i)<s.length then
  some ⟨i+bQ bF (s.drop i),(s.drop (i+bQ bF (s.drop i))).take (dh (s.drop (i+bQ bF (s.drop i)))),
   decide (bQ bF (s.drop i)=0) && decide (0<i) && gp (s.getD (i - 1) 0) && gp (s.getD i 0)⟩
 else none
def toks (s:List UInt8):Nat->Nat->List Tok
 | 0,_=>[]
 | f+1,i=>match dE s i with
  | none=>[]
  | some t=>t :: toks s f (t.at_+t.tx.length)
def wordsOf (s:List UInt8) (i:Nat):List Tok:=toks s (s.length+1) i
theorem qo (p:UInt8->Bool):∀ l,bQ p l<=l.length
 | []=>aD _
 | c :: r=>by
  rw[bQ,aw];have:=qo p r;split <;> omega
theorem AU:∀ l,dM l<=l.length
 | []=>aD _
 | [_]=>aD _
 | c :: d :: r=>by
  rw[dM];have b:=AU (d :: r);have a:=AU r;simp only[aw] at *;split
  .omega
  .split <;> omega
theorem EH:∀ l,mr l<=l.length
 | []=>aD _
 | c :: r=>by
  rw[mr,aw];have:=EH r;split <;> omega
theorem Ql (c:UInt8) (r:List UInt8):1<=qm c r/\qm c r<=r.length+1:=by
 cases r with
 | nil=>exact⟨aD _,aD _⟩
 | cons d r =>
  unfold qm;simp only[aw];split <;> omega
theorem EI (c:UInt8) (r:List UInt8):1<=dh (c :: r)/\dh (c :: r)<=r.length+1:=by
 rw[dh];have g:=qo gp r;have d:=qo uA r;have h:=qo xI r;have e:=qo fQ r;have f:=AU r;have b:=EH r;have a:=Ql c r
 repeat' split
 all_goals omega
theorem xY (l:List UInt8):dh l<=l.length:=by
 cases l with
 | nil=>exact aD _
 | cons c r=>exact (EI c r).2
theorem CE (c:UInt8) (r:List UInt8):0<dh (c :: r):=(EI c r).1
theorem iV {s:List UInt8} {i:Nat} {t:Tok} (h:dE s i=some t):i<=t.at_/\t.at_<s.length/\0<t.tx.length/\t.at_+t.tx.length<=s.length/\t.at_=i+bQ bF (s.drop i)/\t.tx=(s.drop t.at_).take (dh (s.drop t.at_))/\t.tx.length=dh (s.drop t.at_):=by
 unfold dE at h;split at h
 .rename_i a;injection h with h;subst h;generalize k:i+bQ bF (s.drop i)=j at a ⊢;have d:∃ c r,s.drop j=c :: r:=by
   cases e:s.drop j with
   | nil=>have:=congrArg a3 e;simp at this;omega
   | cons c r=>exact⟨c,r,rfl⟩
  obtain⟨c,r,e⟩:=d;have g:=xY (s.drop j);have f:0<dh (s.drop j):=by rw[e];exact CE c r
  have l:(s.drop j).length=s.length - j:=List.length_drop;have b:((s.drop j).take (dh (s.drop j))).length=dh (s.drop j):=by rw[List.length_take];omega
  dsimp only;exact⟨by omega,a,by omega,by omega,rfl,rfl,b⟩
 .cases h
theorem Iu (s:List UInt8):∀ (f b i:Nat),s.length<f+i->s.length<b+i->toks s f i=toks s b i
 | 0,0,_,_,_=>rfl
 | 0,b+1,i,h,_=>by
  rw[toks,toks];split
  .rfl
  .rename_i t a;have:=iV a;omega
 | f+1,0,i,_,h=>by
  rw[toks,toks];split
  .rfl
  .rename_i t a;have:=iV a;omega
 | f+1,b+1,i,h,h'=>by
  rw[toks,toks];split
  .rfl
  .rename_i t a;have:=iV a;rw[Iu s f b _ (by omega) (by omega)]
theorem gy (s:List UInt8) (i:Nat):wordsOf s i=match dE s i with
  | none=>[]
  | some t=>t :: wordsOf s (t.at_+t.tx.length):=by
 unfold wordsOf;rw[toks];split
 .rfl
 .rename_i t a;have:=iV a;rw[Iu s s.length (s.length+1) _ (by omega) (by omega)]
theorem wG (s:List UInt8):∀ (f i:Nat),(toks s f i).length<=s.length - i
 | 0,_=>by simp[toks]
 | f+1,i=>by
  rw[toks];split
  .simp
  .rename_i t a;have c:=iV a;have b:=wG s f (t.at_+t.tx.length);rw[aw];omega
open Classical in
noncomputable def uB (s:List UInt8):Option Val:=if h:∃ v:Val,df v=0/\showT v.k v.n v.s.data.toList v.l=s then some h.choose else none
def SG (out l:List UInt8):Bool:=match out.getLast?,l with
 | some a,d :: _=>(fQ a || decide (a=35)) && fQ d
 | _,_=>false
def qI:Nat->List UInt8->List UInt8->List UInt8
 | 0,out,_=>out
 | _+1,out,[]=>out
 | f+1,out,c :: r=>if c≠32 then qI f (out ++ [c]) r else qI f (if SG out (r.dropWhile bF) then out ++ [32] else out) (r.dropWhile bF)
def lL (s:List UInt8):List UInt8:=qI (s.length+1) [] s
inductive NT | or | UJ | and | AV | not | sum | Dp | product | ji | minus | eY | args (o:Int) | oW (o:Int)
inductive uT | ok (es:List Ex) (l:List Tok) | err (k:Nat)
def lG (l:List Tok) (w:List UInt8):Bool:=match l with
 | t :: _=>!t.touch && decide (t.tx=w)
 | []=>false
def oZ (n:Nat) (l:List Tok):Nat:=match l with
 | t :: _=>t.at_
 | []=>n
def jb:Val:=⟨0,0,⟨#[]⟩,[]⟩
def jF (o:Int) (l:List Ex):Ex:=.mk 4 o ⟨#[]⟩ jb l
def jW (v:Val):Ex:=.mk 1 0 ⟨#[]⟩ v []
def iy (k o:Int) (nm:List UInt8) (l:List Ex):Ex:=.mk k o ⟨nm.toArray⟩ jb l
def CG (o:Int) (l:List Ex):List Ex:=match l with
 | [e]=>[e]
 | l=>[jF o l]
def fU (a b:Int) (l:List Tok):Int:=
 if lG l [] then 0 else match ([4,5,6,7,8,9,10,11,15,16,17,18,19]:List Int).find? (λ o=>decide (a<=o) && decide (o<=b) && decide (dH o≠[]) && lG l (dH o)) with
 | some o=>o
 | none=>0
def orW:List UInt8:=[111,114]
def XV:List UInt8:=[97,110,100]
def ab6:List UInt8:=[110,111,116]
def AZ:List UInt8:=[114,111,119]
def JD (l:List Tok):Bool:=match l with
 | t :: u :: _=>decide (u.at_=t.at_+1) && (match u.tx with
  | c :: _=>fQ c
  | []=>false)
 | _=>false
def sO (w:List UInt8):Bool:=(match w with
 | c :: _=>fQ c || decide (c=64) || decide (c=35) || decide (c=39) || decide (c=123)
 | []=>false) || decide (w=ql) || decide (w=lK)
def sQ (w:List UInt8):Bool:=match w with
 | c :: _=>decide (c=123)
 | []=>false
def nameB (w:List UInt8):Bool:=(match w with
 | c :: _=>rW c
 | []=>false) && !dK.contains w
def wH (t:Tok) (r:List Tok):Bool:=match r with
 | u :: _=>decide (u.tx = [40]) && decide (u.at_=t.at_+t.tx.length)
 | []=>false
def gz (w:List UInt8):Int:=match ([1,2,3,4,5,6]:List Int).find? (λ o=>decide (jV o=w)) with
 | some o=>o
 | none=>0
def kL (w:List UInt8):Int:=match uS.find? (λ p=>decide (p.2=w)) with
 | some p=>p.1
 | none=>0
def nameAt (l:List Tok):Option (List UInt8):=match l with
 | t :: _=>if !t.touch && nameB t.tx then some t.tx else none
 | []=>none
def uT.bind (r:uT) (k:List Ex->List Tok->uT):uT:=match r with
 | .ok es l=>k es l
 | .err p=>.err p
def dG (n:Nat) (w:List UInt8) (l:List Tok) (k:List Tok->uT):uT:=if lG l w then k l.tail else .err (oZ n l)
noncomputable def iC (n:Nat) (p:NT->List Ex->List Tok->uT) (nt:NT) (acc:List Ex) (l:List Tok):uT:=match nt with
 | .or=>(p .and [] l).bind λ es l1=>p .UJ es l1
 | .UJ=>if lG l orW then (p .and [] l.tail).bind λ es l1=>p .UJ (acc ++ es) l1 else .ok (CG 3 acc) l
 | .and=>(p .not [] l).bind λ es l1=>p .AV es l1
 | .AV=>if lG l XV then (p .not [] l.tail).bind λ es l1=>p .AV (acc ++ es) l1 else .ok (CG 2 acc) l
 | .not=>if lG l ab6 then (p .not [] l.tail).bind λ es l1=>.ok [jF 1 es] l1 else
    (p .sum [] l).bind λ es l1=>if fU 4 11 l1=0 then .ok es l1 else (p .sum [] l1.tail).bind λ es2 l2=>.ok [jF (fU 4 11 l1) (es ++ es2)] l2
 | .sum=>(p .product [] l).bind λ es l1=>p .Dp es l1
 | .Dp=>if fU 15 16 l=0 then .ok acc l else (p .product [] l.tail).bind λ es l1=>p .Dp [jF (fU 15 16 l) (acc ++ es)] l1
 | .product=>(p .minus [] l).bind λ es l1=>p .ji es l1
 | .ji=>if fU 17 19 l=0 then .ok acc l else (p .minus [] l.tail).bind λ es l1=>p .ji [jF (fU 17 19 l) (acc ++ es)] l1
 | .minus=>if lG l [45] then
    (if JD l then (match l with
     | t :: u :: r=>(match uB (45 :: u.tx) with
      | some v=>.ok [jW v] r
      | none=>.err t.at_)
     | _=>.err 0)
    else (p .minus [] l.tail).bind λ es l1=>.ok [jF 20 es] l1)
    else p .eY [] l
 | .eY=>match l with
   | []=>.err n
   | t :: r =>
    if t.touch then .err t.at_ else
    if sO t.tx then (match uB (if sQ t.tx then lL t.tx else t.tx) with
     | some v=>.ok [jW v] r
     | none=>.err t.at_) else
    if t.tx = [40] then (p .or [] r).bind λ es l1=>dG n [41] l1 λ l2=>.ok es l2 else
    if nameB t.tx=false then .err t.at_ else
    if wH t r=false then .ok [iy 2 0 t.tx []] r else
    if gz t.tx≠0 then (match nameAt r.tail with
     | none=>.err (oZ n r.tail)
     | some nm=>dG n [58] r.tail.tail λ l1=>(p .or [] l1).bind λ es l2=>dG n [41] l2 λ l3=>.ok [iy 5 (gz t.tx) nm es] l3) else
    if kL t.tx≠0 then (p (.args (kL t.tx)) [] r.tail).bind λ es l1=>dG n [41] l1 λ l2=>.ok [jF (kL t.tx) es] l2 else
    if t.tx=AZ then (match nameAt r.tail with
     | none=>.err (oZ n r.tail)
     | some nm=>dG n [41] r.tail.tail λ l1=>.ok [iy 3 0 nm []] l1) else
    .ok [iy 2 0 t.tx []] r
 | .args o=>(p .or [] l).bind λ es l1=>p (.oW o) es l1
 | .oW o=>if acc.length<(jm o).1\/(lG l [44]=true/\acc.length<(jm o).2) then dG n [44] l λ l1=>(p .or [] l1).bind λ es l2=>p (.oW o) (acc ++ es) l2 else .ok acc l
noncomputable def P (n:Nat):Nat->NT->List Ex->List Tok->uT
 | 0,_,_,_=>.err 0
 | f+1,nt,acc,l=>iC n (P n f) nt acc l
def fV:NT->Nat
 | .eY=>1
 | .minus=>2
 | .ji=>2
 | .product=>3
 | .Dp=>3
 | .sum=>4
 | .not=>5
 | .AV=>5
 | .and=>6
 | .UJ=>6
 | .or=>7
 | .oW _=>7
 | .args _=>8
theorem fC {r:uT} {k:List Ex->List Tok->uT} {m:Nat} {d:List Ex} {c:List Tok} (h:r.bind k = .ok d c) (f:∀ a b,r = .ok a b->b.length<=m) (e:∀ a b,b.length<=m->k a b = .ok d c->c.length<=m):c.length<=m:=by
 cases r with
 | err p=>cases h
 | ok a b=>exact e a b (f a b rfl) h
theorem take_len {n m:Nat} {w:List UInt8} {l:List Tok} {k:List Tok->uT} {b:List Ex} {a:List Tok} (h:dG n w l k = .ok b a) (e:l.length<=m) (d:∀ c,c.length<=m->k c = .ok b a->a.length<=m):a.length<=m:=by
 unfold dG at h;split at h
 .exact d _ (by rw[ba];omega) h
 .cases h
theorem sS {l:List Tok} {m:Nat} (h:l.length<=m):l.tail.length<=m:=by rw[ba];omega
theorem SH (n:Nat):∀ (f:Nat) (i:NT) (e:List Ex) (l:List Tok) (j:List Ex) (g:List Tok) (m:Nat),P n f i e l = .ok j g->l.length<=m->g.length<=m
 | 0,_,_,_,_,_,_,h,_=>by cases h
 | f+1,i,e,l,j,g,m,h,hm=>by
  have b:=SH n f;have d:=sS hm;rw[P] at h;cases i <;> dsimp only[iC] at h
  case or=>exact fC h (λ _ _ h=>b _ _ _ _ _ _ h hm) (λ _ _ a h=>b _ _ _ _ _ _ h a)
  case UJ =>
   split at h
   .exact fC h (λ _ _ h=>b _ _ _ _ _ _ h d) (λ _ _ a h=>b _ _ _ _ _ _ h a)
   .cases h;exact hm
  case and=>exact fC h (λ _ _ h=>b _ _ _ _ _ _ h hm) (λ _ _ a h=>b _ _ _ _ _ _ h a)
  case AV =>
   split at h
   .exact fC h (λ _ _ h=>b _ _ _ _ _ _ h d) (λ _ _ a h=>b _ _ _ _ _ _ h a)
   .cases h;exact hm
  case not =>
   split at h
   .exact fC h (λ _ _ h=>b _ _ _ _ _ _ h d) (λ _ _ a h=>by cases h;exact a)
   .refine fC h (λ _ _ h=>b _ _ _ _ _ _ h hm) (λ _ _ a h=>?_);split at h
    .cases h;exact a
    .exact fC h (λ _ _ h=>b _ _ _ _ _ _ h (sS a)) (λ _ _ a h=>by cases h;exact a)
  case sum=>exact fC h (λ _ _ h=>b _ _ _ _ _ _ h hm) (λ _ _ a h=>b _ _ _ _ _ _ h a)
  case Dp =>
   split at h
   .cases h;exact hm
   .exact fC h (λ _ _ h=>b _ _ _ _ _ _ h d) (λ _ _ a h=>b _ _ _ _ _ _ h a)
  case product=>exact fC h (λ _ _ h=>b _ _ _ _ _ _ h hm) (λ _ _ a h=>b _ _ _ _ _ _ h a)
  case ji =>
   split at h
   .cases h;exact hm
   .exact fC h (λ _ _ h=>b _ _ _ _ _ _ h d) (λ _ _ a h=>b _ _ _ _ _ _ h a)
  case minus =>
   split at h
   .split at h
    .split at h
     .split at h
      .cases h;simp only[aw] at hm;omega
      .cases h
     .cases h
    .exact fC h (λ _ _ h=>b _ _ _ _ _ _ h d) (λ _ _ a h=>by cases h;exact a)
   .exact b _ _ _ _ _ _ h hm
  case eY =>
   split at h
   .cases h
   .rename_i t r;have c:r.length<=m:=by rw[aw] at hm;omega
    split at h
    .cases h
    split at h
    .split at h
     .cases h;exact c
     .cases h
    split at h
    .exact fC h (λ _ _ h=>b _ _ _ _ _ _ h c) (λ _ _ a h=>take_len h a (λ _ a h=>by cases h;exact a))
    split at h
    .cases h
    split at h
    .cases h;exact c
    split at h
    .split at h
     .cases h
     .exact take_len h (sS (sS c)) (λ _ a h=>fC h (λ _ _ h=>b _ _ _ _ _ _ h a) (λ _ _ a h=>take_len h a (λ _ a h=>by cases h;exact a)))
    split at h
    .exact fC h (λ _ _ h=>b _ _ _ _ _ _ h (sS c)) (λ _ _ a h=>take_len h a (λ _ a h=>by cases h;exact a))
    split at h
    .split at h
     .cases h
     .exact take_len h (sS (sS c)) (λ _ a h=>by cases h;exact a)
    .cases h;exact c
  case args=>exact fC h (λ _ _ h=>b _ _ _ _ _ _ h hm) (λ _ _ a h=>b _ _ _ _ _ _ h a)
  case oW =>
   split at h
   .exact take_len h hm (λ _ a h=>fC h (λ _ _ h=>b _ _ _ _ _ _ h a) (λ _ _ a h=>b _ _ _ _ _ _ h a))
   .cases h;exact hm
noncomputable def kM (s:List UInt8):Ex × Nat × Int:=
 if 4000<s.length then (.mk 0 0 ⟨#[]⟩ jb [],0,2) else match P s.length (12*(wordsOf s 0).length+7) .or [] (wordsOf s 0) with
  | .err k=>(.mk 0 0 ⟨#[]⟩ jb [],k,10)
  | .ok _ (t :: _)=>(.mk 0 0 ⟨#[]⟩ jb [],t.at_,10)
  | .ok es []=>if dR (es.getD 0 (.mk 0 0 ⟨#[]⟩ jb []))≠0 then (.mk 0 0 ⟨#[]⟩ jb [],0,dR (es.getD 0 (.mk 0 0 ⟨#[]⟩ jb []))) else (es.getD 0 (.mk 0 0 ⟨#[]⟩ jb []),0,0)
end
section
structure kN where
 code:Int
 ph:List ByteArray
 al:Bool
 la:Bool
structure aS where
 nm:ByteArray
 os:List kN
structure dY where
 must:Ex
 soft:Bool
 ph:List ByteArray
structure lN where
 k:Int
 lo:Int
 hi:Int
 pl:Int
 ls:ByteArray
 only:List Ex
 sh:Bool
 rs:List Int
 need:Bool
 ch:List dY
inductive ItemD
 | mk (k:Int) (nm:ByteArray) (iff:List Ex) (ph:List ByteArray) (items:List ItemD) (sh:Bool) (cnt:List Ex) (over:ByteArray) (ans:lN) (cmp:List Ex)
namespace ItemD
def k:ItemD->Int | .mk k _ _ _ _ _ _ _ _ _=>k
def nm:ItemD->ByteArray | .mk _ nm _ _ _ _ _ _ _ _=>nm
def iff:ItemD->List Ex | .mk _ _ x _ _ _ _ _ _ _=>x
def ph:ItemD->List ByteArray | .mk _ _ _ x _ _ _ _ _ _=>x
def items:ItemD->List ItemD | .mk _ _ _ _ x _ _ _ _ _=>x
def sh:ItemD->Bool | .mk _ _ _ _ _ x _ _ _ _=>x
def cnt:ItemD->List Ex | .mk _ _ _ _ _ _ x _ _ _=>x
def over:ItemD->ByteArray | .mk _ _ _ _ _ _ _ x _ _=>x
def ans:ItemD->lN | .mk _ _ _ _ _ _ _ _ x _=>x
def cmp:ItemD->List Ex | .mk _ _ _ _ _ _ _ _ _ x=>x
end ItemD
structure aI where
 nm:ByteArray
 jo:Int
 ag:List ByteArray
 lists:List aS
 items:List ItemD
structure au where
 it:ItemD
 par:Int
 jA:Int
 dm:Int
 lo:List ByteArray
def XW:lN:=⟨0,0,0,0,⟨#[]⟩,[],false,[],false,[]⟩
def aef:au:=⟨.mk 0 ⟨#[]⟩ [] [] [] false [] ⟨#[]⟩ XW [],-1,0,0,[]⟩
mutual
def ItemD.add:ItemD->List au->Int->Int->Int->List ByteArray->List au
 | .mk k nm iff ph items sh cnt over ans cmp,acc,par,jA,dm,lo =>
  iZ items (acc ++ [⟨.mk k nm iff ph items sh cnt over ans cmp,par,jA,dm,lo⟩]) acc.length 0 (dm+1) (if k=3 then lo ++ [nm] else lo)
def iZ:List ItemD->List au->Int->Int->Int->List ByteArray->List au
 | [],acc,_,_,_,_=>acc
 | it :: r,acc,par,jA,dm,lo=>if 300<acc.length\/13<dm then acc else iZ r (it.add acc par jA dm lo) par (jA+1) dm lo
end
def ai (f:aI):List au:=iZ f.items [] (-1) 0 1 []
def jY (N:List au) (n:Int):au:=N.getD n.toNat aef
def fA (N:List au) (nm:ByteArray):Int:=match N.findIdx? (λ d=>decide (d.it.nm=nm)) with
 | some i=>i
 | none=>-1
def uU (N:List au) (nm:ByteArray):Int:=if 0<=fA N nm/\(jY N (fA N nm)).it.k≠4 then -1 else fA N nm
def JE (N:List au):Nat->Int->List Int
 | 0,_=>[]
 | f+1,n=>if n<0 then [] else n :: JE N f (jY N n).par
def ups (N:List au) (n:Int):List Int:=JE N (n.toNat+1) n
def yU (N:List au) (n:Int):List Int:=(ups N n).reverse
def sU (N:List au):List Int->List Int->Bool
 | x :: xs,y :: ys=>if x=y then sU N xs ys else decide ((jY N x).par<0) || decide ((jY N (jY N x).par).it.k≠2) || !(jY N (jY N x).par).it.sh
 | _,_=>true
def iW (N:List au) (a n:Int):Bool:=decide (a<n) && sU N (yU N a) (yU N n)
def yV (N:List au) (a n:Int):Bool:=(ups N (jY N n).par).any (λ x=>decide (x=a))
def sV (N:List au) (n:Int):Bool:=(ups N (jY N n).par).any (λ x=>decide ((jY N x).it.k=1))
def EJ (d:au):Bool:=decide (d.it.k=4) || decide (d.it.k=5)
abbrev aY:=List (ByteArray × Int)
def SI (K:aY) (nm:ByteArray):Int:=match K.find? (λ p=>decide (p.1=nm)) with
 | some p=>p.2
 | none=>0
def SK (K:aY) (d:au):Int:=if d.it.k=4 then d.it.ans.k else SI K d.it.nm
def uC (K:aY) (d:au):bu:=⟨d.it.nm,SK K d,d.lo⟩
def o8 (N:List au) (K:aY) (keep:Nat->Bool) (k:Nat):List bu:=((List.range k).filter (λ (i:Nat)=>EJ (jY N (i:Nat)) && keep i)).map (λ i=>uC K (jY N (i:Nat)))
def jG (N:List au):List bU:=(N.filter (λ d=>decide (d.it.k=3))).map (λ d=>⟨d.it.nm,d.lo⟩)
def lX (L:List aS) (nm:ByteArray):Option aS:=L.find? (λ l=>decide (l.nm=nm))
mutual
def Ex.pre:Ex->List Ex
 | .mk k op nm v ar=>.mk k op nm v ar :: Ba ar
def Ba:List Ex->List Ex
 | []=>[]
 | a :: r=>a.pre ++ Ba r
end
def CJ (N:List au) (n:Int) (more:List bu) (s:Int × Int) (x:Ex):Int × Int:=
 if x.k=2 then (if more.any (λ m=>decide (m.nm=x.nm)) then s else if fA N x.nm<0\/EJ (jY N (fA N x.nm))=false then (5,s.2) else if iW N (fA N x.nm) n=false then (s.1,14) else s)
 else if x.k=3\/x.k=5 then (if fA N x.nm<0\/(jY N (fA N x.nm)).it.k≠3 then (5,s.2) else if x.k=5/\(iW N (fA N x.nm) n=false\/yV N (fA N x.nm) n=true) then (s.1,14) else s)
 else s
def EK (N:List au) (e:Ex) (n:Int) (more:List bu):Int:=
 if (e.pre.foldl (CJ N n more) (0,0)).1≠0 then (e.pre.foldl (CJ N n more) (0,0)).1 else (e.pre.foldl (CJ N n more) (0,0)).2
def aeg (e:Ex) (cells:List bu) (loops:List bU) (at_:List ByteArray):Int × Int:=
 if dR e≠0 then (0,dR e) else if fO cells loops≠0 then (0,fO cells loops) else if jy loops at_=false then (0,9) else e.kind cells loops at_
noncomputable def XX (e:Ex):Int:=if dR e≠0 then dR e else if 4000<e.text.length then 2 else 0
def EL (N:List au) (K:aY) (n:Int):List bu:=o8 N K (λ i=>iW N i n) N.length
noncomputable def bV (N:List au) (K:aY) (n:Int) (more:List bu) (e:Ex):Int × Int:=
 if XX e≠0 then (0,XX e) else if EK N e n more≠0 then (0,EK N e n more) else aeg e (EL N K n ++ more) (jG N) (jY N n).lo
def dS (F:Ex->Int × Int) (k:Int):List Ex->Int
 | []=>0
 | e :: r=>if (F e).2≠0 then (F e).2 else if (F e).1≠k then 8 else dS F k r
def cZ (N:List au) (K:aY) (n:Int):List bu:=if 0<=n/\(jY N n).it.k=4 then [uC K (jY N n)] else []
def o9:List UInt8->Bool->Nat->Option Nat
 | [],_,_=>none
 | c :: r,q,k=>if c=39 then o9 r (!q) (k+1) else if q then o9 r q (k+1) else if c=125 then some k else if c=123 then none else o9 r q (k+1)
noncomputable def qJ:Nat->List UInt8->Option (List Ex)
 | 0,_=>some []
 | _+1,[]=>some []
 | f+1,c :: r=>if c≠123/\c≠125 then qJ f r else if r.head?=some c then qJ f (r.drop 1) else if c=125 then none else
  match o9 r false 0 with
  | none=>none
  | some k=>if (kM (r.take k)).2.2≠0 then none else (qJ f (r.drop (k+1))).map ((kM (r.take k)).1 :: ·)
noncomputable def uV (s:ByteArray):Option (List Ex):=qJ (s.size+1) s.data.toList
def qK (F:Ex->Int × Int) (pipes:Bool):List Ex->Int
 | []=>0
 | e :: r=>if pipes=false then 10 else if (F e).2≠0 then (F e).2 else qK F pipes r
noncomputable def Np (F:Ex->Int × Int) (pipes:Bool):List ByteArray->Int
 | []=>0
 | s :: r=>if 300<s.size then 2 else if s.data.toList.any (λ c=>aW c.toNat 32 126) then 1 else
  match uV s with
  | none=>10
  | some es=>if qK F pipes es≠0 then qK F pipes es else Np F pipes r
noncomputable def pq (F:Ex->Int × Int) (nl:Nat) (pipes:Bool) (p:List ByteArray):Int:=if 0<p.length/\p.length≠nl then 3 else Np F pipes p
def Bc:List ByteArray->List ByteArray->Int
 | _,[]=>0
 | prev,l :: r=>if aP l.data.toList=false then 5 else if prev.any (λ p=>decide (p=l)) then 6 else Bc (prev ++ [l]) r
def nG (f:aI):Int:=if aP f.nm.data.toList=false then 5 else if aW f.jo 1 9999=true then 1 else if aW f.ag.length 1 6=true then 2 else Bc [] f.ag
noncomputable def qp (nl:Nat):List kN->List kN->Int
 | _,[]=>0
 | prev,o :: r=>if aW o.code 1 999=true then 1 else if prev.any (λ p=>decide (p.code=o.code)) then 6 else
  if pq (λ _=>(0,0)) nl false o.ph≠0 then pq (λ _=>(0,0)) nl false o.ph else qp nl (prev ++ [o]) r
noncomputable def mD (nl:Nat):List aS->List aS->Int
 | _,[]=>0
 | prev,l :: r=>if aP l.nm.data.toList=false then 5 else if prev.any (λ p=>decide (p.nm=l.nm)) then 6 else if aW l.os.length 1 40=true then 2 else
  if qp nl [] l.os≠0 then qp nl [] l.os else mD nl (prev ++ [l]) r
noncomputable def jH (f:aI):Int:=if 60<f.lists.length then 2 else mD f.ag.length [] f.lists
def xJ (N:List au):Int:=if 300<N.length then 2 else if N.any (λ d=>decide (12<d.dm) || decide (3<d.lo.length)) then 2 else 0
def Iw (a:lN):Bool:=decide (a.k=0) && decide (a.lo=0) && decide (a.hi=0) && decide (a.pl=0) && decide (a.ls=⟨#[]⟩) && decide (a.only.length=0) && !a.sh && decide (a.rs.length=0) && !a.need && decide (a.ch.length=0)
def nZ (x:ItemD):Bool:=
 let spoken:=decide (x.k=1) || decide (x.k=4) || decide (x.k=6);let holds:=decide (x.k=1) || decide (x.k=2) || decide (x.k=3)
 (!spoken && decide (0<x.ph.length)) || (!holds && decide (0<x.items.length)) || (decide (x.k≠2) && x.sh) ||
 (decide (x.k≠3) && (decide (0<x.cnt.length) || decide (x.over≠⟨#[]⟩))) || (decide (x.k=3) && (decide (0<x.cnt.length) == decide (x.over≠⟨#[]⟩))) ||
 (decide (x.k≠4) && !Iw x.ans) || (decide (x.k=5) && decide (x.cmp.length≠1)) || (decide (x.k≠5) && decide (0<x.cmp.length)) ||
 decide (1<x.iff.length) || decide (1<x.cnt.length)
def Ho (k:Int):Int × Int:=if k=2 then (-999999999999999,999999999999999) else if k=6 then (-25567,84005) else if k=3 then (0,200) else if k=5 then (0,40) else (0,0)
def SL (a:lN):Bool:=
 let chosen:=decide (a.k=4) || decide (a.k=5)
 (decide (a.pl=0) || decide (a.k=2)) && (chosen || (decide (a.ls=⟨#[]⟩) && decide (a.only.length=0) && !a.sh)) && (decide (a.k≠4) || (decide (a.lo=0) && decide (a.hi=0))) && decide (a.only.length<=1)
def CO:Option Int->List Int->Int
 | _,[]=>0
 | prev,r :: l=>if (match prev with | some p=>decide (r<=p) | none=>false) then 7 else if aW r 1 3=true then 1 else CO (some r) l
def JF (L:List aS) (a:lN):Int:=
 if aW a.k 2 6=true then 4 else if SL a=false then 3 else if a.hi<a.lo\/aW a.lo (Ho a.k).1 (Ho a.k).2=true\/aW a.hi (Ho a.k).1 (Ho a.k).2=true then 1 else
 if aW a.pl 0 4=true then 1 else if (lX L a.ls).isNone=true/\(a.k=4\/a.k=5) then 5 else if CO none a.rs≠0 then CO none a.rs else if 6<a.ch.length then 2 else 0
def uD:ByteArray:=⟨#[111,112,116,105,111,110]⟩
def mF (N:List au) (L:List aS) (n:Nat):Int:=
 let x:=(jY N n).it;let page:=sV N n
 if aW x.k 1 6=true then 4 else if aP x.nm.data.toList=false\/x.nm=uD then 5 else if (N.take n).any (λ d=>decide (d.it.nm=x.nm)) then 6 else if nZ x=true then 3 else
 if (page=true/\(x.k=1\/x.k=6))\/(page=false/\x.k=4) then 7 else if x.k=4 then JF L x.ans else 0
def uX (N:List au) (L:List aS):Nat->Nat->Int
 | 0,_=>0
 | f+1,n=>if n<N.length then (if mF N L n≠0 then mF N L n else uX N L f (n+1)) else 0
def fZ (N:List au) (L:List aS):Int:=if xJ N≠0 then xJ N else uX N L (N.length+1) 0
def SN (N:List au) (L:List aS) (n:Int):Int:=
 let x:=(jY N n).it
 if x.over=⟨#[]⟩ then 0 else
 let q:=uU N x.over
 if q<0 then 5 else if iW N q n=false then 14 else if (jY N q).it.ans.k≠5 then 8 else
 if (jY N n).lo.length<(jY N q).lo.length\/(jY N q).lo≠(jY N n).lo.take (jY N q).lo.length then 5 else
 if 20<(match lX L (jY N q).it.ans.ls with | some l=>l.os.length | none=>0) then 2 else 0
noncomputable def Iy (N:List au) (L:List aS) (K:aY) (n:Int):Int:=
 if dS (bV N K n []) 2 (jY N n).it.cnt≠0 then dS (bV N K n []) 2 (jY N n).it.cnt else SN N L n
noncomputable def oh (N:List au) (K:aY) (nl:Nat) (n:Int):List dY->Int
 | []=>0
 | r :: l=>if dS (bV N K n (cZ N K n)) 7 [r.must]≠0 then dS (bV N K n (cZ N K n)) 7 [r.must] else
  if pq (bV N K n (cZ N K n)) nl true r.ph≠0 then pq (bV N K n (cZ N K n)) nl true r.ph else oh N K nl n l
noncomputable def xZ (N:List au) (K:aY) (nl:Nat) (n:Int):Int:=
 if dS (bV N K n [⟨uD,4,[]⟩]) 7 (jY N n).it.ans.only≠0 then dS (bV N K n [⟨uD,4,[]⟩]) 7 (jY N n).it.ans.only else oh N K nl n (jY N n).it.ans.ch
noncomputable def qw (N:List au) (L:List aS) (K:aY) (nl:Nat) (n:Int):Int × aY:=
 let x:=(jY N n).it
 if dS (bV N K n []) 7 x.iff≠0 then (dS (bV N K n []) 7 x.iff,K) else
 if pq (bV N K n (cZ N K n)) nl true x.ph≠0 then (pq (bV N K n (cZ N K n)) nl true x.ph,K) else
 if x.k=3 then (Iy N L K n,K) else if x.k=4 then (xZ N K nl n,K) else
 if x.k=5 then (match x.cmp with
  | []=>(0,K)
  | e :: _=>((bV N K n [] e).2,(x.nm,(bV N K n [] e).1) :: K)) else (0,K)
noncomputable def uF (N:List au) (L:List aS) (nl:Nat):Nat->Nat->aY->Int × aY
 | 0,_,K=>(0,K)
 | f+1,n,K=>if n<N.length then (if (qw N L K nl n).1≠0 then qw N L K nl n else uF N L nl f (n+1) (qw N L K nl n).2) else (0,K)
noncomputable def nH (f:aI):Int × aY:=
 if nG f≠0 then (nG f,[]) else if jH f≠0 then (jH f,[]) else if fZ (ai f) f.lists≠0 then (fZ (ai f) f.lists,[]) else
 uF (ai f) f.lists f.ag.length ((ai f).length+1) 0 []
noncomputable def aX (f:aI):Int:=(nH f).1
open Go.RowKit
def kz (w:World) (B:Nat) (A:Option Addr) (c:Nat) (l:List ByteArray):Prop:=dA w B A l/\l.length<=c/\l.length<=maxLen/\∀ s∈l,s.size<=maxLen
def al9 (o:kN) (A:Option Addr) (c:Nat):List Value:=[ak am o.code,ap A o.ph.length c,av o.al,av o.la]
def uY (w:World) (B:Nat) (o:kN) (cs:List Value):Prop:=∃ A c,cs=al9 o A c/\kz w B A c o.ph
def JG (l:aS) (A:Option Addr) (c:Nat):List Value:=[ao l.nm,ap A l.os.length c]
def jI (w:World) (B:Nat) (l:aS) (cs:List Value):Prop:=∃ A c,cs=JG l A c/\aF uY 4 w B A l.os/\l.os.length<=c/\l.nm.size<=maxLen
def mG (w:World) (B:Nat) (r:dY) (cs:List Value):Prop:=∃ es A c,cs=es ++ [av r.soft,ap A r.ph.length c]/\bC w B r.must es/\kz w B A c r.ph
def XY (a:lN) (A1:Option Addr) (c1:Nat) (A2:Option Addr) (c2:Nat) (A3:Option Addr) (c3:Nat):List Value:=
 [ak am a.k,ak am a.lo,ak am a.hi,ak am a.pl,ao a.ls,ap A1 a.only.length c1,av a.sh,ap A2 a.rs.length c2,av a.need,ap A3 a.ch.length c3]
abbrev BO (a:lN) (A1:Option Addr) (c1:Nat) (A2:Option Addr) (c2:Nat) (A3:Option Addr) (c3:Nat):Array Value:=#[ak am a.k,ak am a.lo,ak am a.hi,ak am a.pl,ao a.ls,ap A1 a.only.length c1,av a.sh,ap A2 a.rs.length c2,av a.need,ap A3 a.ch.length c3]
structure qA (w:World) (B:Nat) (a:lN) (A1:Option Addr) (c1:Nat) (A2:Option Addr) (c2:Nat) (A3:Option Addr) (c3:Nat):Prop where
 h1:aF bC 8 w B A1 a.only
 h2:Reads w B 1 A2 a.rs.length (bK am a.rs)
 h3:aF mG 10 w B A3 a.ch
 l1:a.only.length<=c1
 l2:a.rs.length<=c2
 l3:a.ch.length<=c3
 l4:a.rs.length<=maxLen
 l5:a.ls.size<=maxLen
def itC (x:ItemD) (A1:Option Addr) (c1:Nat) (A2:Option Addr) (c2:Nat) (A3:Option Addr) (c3:Nat) (A4:Option Addr) (c4:Nat) (A5:Option Addr) (c5:Nat) (an:List Value):List Value:=
 [ak am x.k,ao x.nm,ap A1 x.iff.length c1,ap A2 x.ph.length c2,ap A3 x.items.length c3,av x.sh,ap A4 x.cnt.length c4,ao x.over] ++ an ++ [ap A5 x.cmp.length c5]
abbrev Bd (x:ItemD) (A1:Option Addr) (c1:Nat) (A2:Option Addr) (c2:Nat) (A3:Option Addr) (c3:Nat) (A4:Option Addr) (c4:Nat) (B1:Option Addr) (b1:Nat) (B2:Option Addr) (b2:Nat) (B3:Option Addr) (b3:Nat) (A5:Option Addr) (c5:Nat):Array Value:=#[ak am x.k,ao x.nm,ap A1 x.iff.length c1,ap A2 x.ph.length c2,ap A3 x.items.length c3,av x.sh,ap A4 x.cnt.length c4,ao x.over,ak am x.ans.k,ak am x.ans.lo,ak am x.ans.hi,ak am x.ans.pl,ao x.ans.ls,ap B1 x.ans.only.length b1,av x.ans.sh,ap B2 x.ans.rs.length b2,av x.ans.need,ap B3 x.ans.ch.length b3,ap A5 x.cmp.length c5]
inductive dW (w:World) (B:Nat):ItemD->List Value->Prop
 | mk {x:ItemD} {A1:Option Addr} {c1:Nat} {A2:Option Addr} {c2:Nat} {A3:Option Addr} {c3:Nat} {A4:Option Addr} {c4:Nat} {A5:Option Addr} {c5:Nat} {B1:Option Addr} {b1:Nat} {B2:Option Addr} {b2:Nat} {B3:Option Addr} {b3:Nat} {cs:List Value}
   (h1:aF bC 8 w B A1 x.iff) (h2:kz w B A2 c2 x.ph) (h4:aF bC 8 w B A4 x.cnt) (h5:aF bC 8 w B A5 x.cmp) (ha:qA w B x.ans B1 b1 B2 b2 B3 b3)
   (l1:x.iff.length<=c1) (l3:x.items.length<=c3) (l4:x.cnt.length<=c4) (l5:x.cmp.length<=c5) (l6:x.nm.size<=maxLen) (l7:x.over.size<=maxLen) (l8:x.items.length<=maxLen)
   (hr:Reads w B 19 A3 x.items.length cs) (hi:∀ i (h:i<x.items.length),dW w B x.items[i] ((cs.drop (i*19)).take 19)) :
   dW w B x (itC x A1 c1 A2 c2 A3 c3 A4 c4 A5 c5 (XY x.ans B1 b1 B2 b2 B3 b3))
abbrev wI:=aF dW 19
def Be (w:World) (B:Nat) (d:au) (cs:List Value):Prop:=∃ uI A c,cs=uI ++ [ak am d.par,ak am d.jA,ak am d.dm,ap A d.lo.length c]/\dW w B d.it uI/\kz w B A c d.lo
section
variable {w w':World} {B B':Nat}
theorem kz.keep {A:Option Addr} {c:Nat} {l:List ByteArray} (h:kz w B A c l) (a:Below B w w'):kz w' B A c l:=⟨h.1.below a,h.2⟩
theorem kz.up {A:Option Addr} {c:Nat} {l:List ByteArray} (h:kz w B A c l) (a:B<=B'):kz w B' A c l:=⟨h.1.more a,h.2⟩
theorem aF.UK {α:Type} {P:World->Nat->α->List Value->Prop} {size:Nat} {A:Option Addr} {l:List α} (c:∀ d cs,P w B d cs->P w B' d cs) (h:aF P size w B A l) (f:B<=B'):aF P size w B' A l:=by
 obtain⟨e,cs,g,b⟩:=h;exact⟨e,cs,g.more f,λ i a=>c _ _ (b i a)⟩
theorem uY.keep {o:kN} {cs:List Value} (h:uY w B o cs) (b:Below B w w'):uY w' B o cs:=by obtain⟨A,c,e,a⟩:=h;exact⟨A,c,e,a.keep b⟩
theorem uY.up {o:kN} {cs:List Value} (h:uY w B o cs) (a:B<=B'):uY w B' o cs:=by obtain⟨A,c,e,b⟩:=h;exact⟨A,c,e,b.up a⟩
theorem jI.keep {l:aS} {cs:List Value} (h:jI w B l cs) (a:Below B w w'):jI w' B l cs:=by
 obtain⟨A,c,e,d,b⟩:=h;exact⟨A,c,e,d.keep (λ _ _ h=>h.keep a) a,b⟩
theorem jI.up {l:aS} {cs:List Value} (h:jI w B l cs) (a:B<=B'):jI w B' l cs:=by
 obtain⟨A,c,e,d,b⟩:=h;exact⟨A,c,e,d.UK (λ _ _ h=>h.up a) a,b⟩
theorem mG.keep {r:dY} {cs:List Value} (h:mG w B r cs) (a:Below B w w'):mG w' B r cs:=by
 obtain⟨f,A,c,e,d,b⟩:=h;exact⟨f,A,c,e,d.keep a,b.keep a⟩
theorem mG.up {r:dY} {cs:List Value} (h:mG w B r cs) (a:B<=B'):mG w B' r cs:=by
 obtain⟨f,A,c,e,d,b⟩:=h;exact⟨f,A,c,e,d.up a,b.up a⟩
theorem qA.keep {a:lN} {A1 A2 A3:Option Addr} {c1 c2 c3:Nat} (h:qA w B a A1 c1 A2 c2 A3 c3) (b:Below B w w'):qA w' B a A1 c1 A2 c2 A3 c3:=
 ⟨h.h1.keep (λ _ _ h=>h.keep b) b,h.h2.below b,h.h3.keep (λ _ _ h=>h.keep b) b,h.l1,h.l2,h.l3,h.l4,h.l5⟩
theorem qA.up {a:lN} {A1 A2 A3:Option Addr} {c1 c2 c3:Nat} (h:qA w B a A1 c1 A2 c2 A3 c3) (b:B<=B'):qA w B' a A1 c1 A2 c2 A3 c3:=
 ⟨h.h1.UK (λ _ _ h=>h.up b) b,h.h2.more b,h.h3.UK (λ _ _ h=>h.up b) b,h.l1,h.l2,h.l3,h.l4,h.l5⟩
theorem dW.keep {x:ItemD} {cs:List Value} (h:dW w B x cs) (a:Below B w w'):dW w' B x cs:=by
 induction h with
 | mk h1 h2 h4 h5 ha l1 l3 l4 l5 l6 l7 l8 hr hi ih =>
  exact .mk (h1.keep (λ _ _ h=>h.keep a) a) (h2.keep a) (h4.keep (λ _ _ h=>h.keep a) a) (h5.keep (λ _ _ h=>h.keep a) a) (ha.keep a) l1 l3 l4 l5 l6 l7 l8 (hr.below a) ih
theorem dW.up {x:ItemD} {cs:List Value} (h:dW w B x cs) (a:B<=B'):dW w B' x cs:=by
 induction h with
 | mk h1 h2 h4 h5 ha l1 l3 l4 l5 l6 l7 l8 hr hi ih =>
  exact .mk (h1.UK (λ _ _ h=>h.up a) a) (h2.up a) (h4.UK (λ _ _ h=>h.up a) a) (h5.UK (λ _ _ h=>h.up a) a) (ha.up a) l1 l3 l4 l5 l6 l7 l8 (hr.more a) ih
theorem Be.keep {d:au} {cs:List Value} (h:Be w B d cs) (a:Below B w w'):Be w' B d cs:=by
 obtain⟨b,A,c,e,g,f⟩:=h;exact⟨b,A,c,e,g.keep a,f.keep a⟩
theorem Be.up {d:au} {cs:List Value} (h:Be w B d cs) (a:B<=B'):Be w B' d cs:=by
 obtain⟨b,A,c,e,g,f⟩:=h;exact⟨b,A,c,e,g.up a,f.up a⟩
end
def EM (w:World) (B0 m:Nat) (d:au) (cs:List Value):Prop:=∃ uI A c,cs=uI ++ [ak am d.par,ak am d.jA,ak am d.dm,ap A d.lo.length c]/\dW w B0 d.it uI/\kz w w.heap.size A c d.lo/\d.lo.length<=1000/\∀ ad,A=some ad->ad.block≠m
def sW (w:World) (B0 m:Nat) (A:Option Addr) (N:List au):Prop:=
 N.length<=301/\(∀ ad,A=some ad->ad.block≠m)/\∃ cs,Reads w w.heap.size 23 A N.length cs/\∀ i (h:i<N.length),EM w B0 m N[i] ((cs.drop (i*23)).take 23)
structure jS where
 AL:Option Addr
 cl:Nat
 AS:Option Addr
 cs:Nat
 AI:Option Addr
 ci:Nat
 AN:Option Addr
 cn:Nat
abbrev BK (f:aI) (x:jS):Array Value:=#[ao f.nm,ak am f.jo,ap x.AL f.ag.length x.cl,ap x.AS f.lists.length x.cs,ap x.AI f.items.length x.ci]
abbrev bkC (f:aI) (N:List au) (m1 m2 m3:Nat) (x:jS):Array Value:=
 #[ao f.nm,ak am f.jo,ap x.AL f.ag.length x.cl,ap x.AS f.lists.length x.cs,ap x.AI f.items.length x.ci,ap x.AN N.length x.cn,.map (some m1),.map (some m2),.map (some m3)]
structure jq (w:World) (B0:Nat) (f:aI) (x:jS):Prop where
 nm:f.nm.size<=maxLen
 la:kz w B0 x.AL x.cl f.ag
 ls:aF jI 2 w B0 x.AS f.lists
 li:f.lists.length<=x.cs
 it:wI w B0 x.AI f.items
 ii:f.items.length<=x.ci
def Qm (kv:List (ByteArray × Value)) (N:List au):Prop:=∀ s,di kv s=if fA N s<0 then none else some (ak am (fA N s))
def EN (w:World) (B0:Nat) (kv:List (ByteArray × Value)) (L:List aS):Prop:=∀ s,match lX L s with
 | none=>di kv s=none
 | some l=>∃ A c,di kv s=some (.agg (JG l A c).toArray)/\jI w B0 l (JG l A c)
def ab7 (kv:List (ByteArray × Value)) (K:aY):Prop:=∀ s,di kv s=(K.find? (λ p=>decide (p.1=s))).map (λ p=>.int am p.2)
structure aT (w:World) (B0 gb m1 m2 m3:Nat) (x:jS) (f:aI) (N:List au) (K:aY):Prop where
 blk:ah w gb 115 (bkC f N m1 m2 m3 x)
 form:jq w B0 f x
 nodes:sW w B0 m3 x.AN N
 cap:N.length<=x.cn
 by_:∃ kv,aO w m1 kv/\Qm kv N
 ls:∃ kv,aO w m2 kv/\EN w B0 kv f.lists
 kd:∃ kv,aO w m3 kv/\ab7 kv K
 ne:B0<=m1/\B0<=m2/\B0<=m3/\B0<=gb/\m1≠m3/\m2≠m3/\gb≠m3
 le:B0<=w.heap.size
section
variable {w w':World} {B0 m:Nat}
theorem EM.keep {d:au} {cs:List Value} (h:EM w B0 m d cs) (a:DD w w') (g:B0<=w.heap.size):EM w' B0 m d cs:=by
 obtain⟨b,A,c,e,i,f,j⟩:=h;exact⟨b,A,c,e,i.keep (a.mono g),(f.keep a).up a.size,j⟩
theorem sW.keep {A:Option Addr} {N:List au} (h:sW w B0 m A N) (a:DD w w') (e:B0<=w.heap.size):sW w' B0 m A N:=by
 obtain⟨d,f,cs,c,g⟩:=h;exact⟨d,f,cs,(c.below a).more a.size,λ i b=>(g i b).keep a e⟩
theorem jq.keep {f:aI} {x:jS} (h:jq w B0 f x) (a:Below B0 w w'):jq w' B0 f x:=
 ⟨h.nm,h.la.keep a,h.ls.keep (λ _ _ h=>h.keep a) a,h.li,h.it.keep (λ _ _ h=>h.keep a) a,h.ii⟩
theorem EN.keep {a:List (ByteArray × Value)} {L:List aS} (h:EN w B0 a L) (e:Below B0 w w'):EN w' B0 a L:=by
 intro s;have:=h s;split at this
 .exact this
 .obtain⟨A,c,d,b⟩:=this;exact⟨A,c,d,b.keep e⟩
theorem aT.keep {g i k d:Nat} {x:jS} {f:aI} {N:List au} {K:aY} (h:aT w B0 g i k d x f N K) (a:DD w w'):aT w' B0 g i k d x f N K:=by
 obtain⟨l,j,b1⟩:=h.by_;obtain⟨n,c,b2⟩:=h.ls;obtain⟨m,e,b3⟩:=h.kd;have b:=a.mono h.le;exact⟨h.blk.below a h.blk.lt,h.form.keep b,h.nodes.keep a h.le,h.cap,⟨l,j.below a j.lt,b1⟩,⟨n,c.below a c.lt,b2.keep b⟩,⟨m,e.below a e.lt,b3⟩,h.ne,Nat.le_trans h.le a.size⟩
theorem sW.at_ {A:Option Addr} {N:List au} (h:sW w B0 m A N) {i:Nat} (b:i<N.length) :
  ∃ ad cs,A=some ad/\ad.block<w.heap.size/\EM w B0 m N[i] cs/\∀ j u,cs[j]?=some u->w.cell? ((ad.add (i*23)).add j)=some u:=by
 obtain⟨-,-,cs,f,c⟩:=h;obtain⟨ad,rfl,e,d⟩:=f.2 (by omega);refine⟨ad,_,rfl,e,c i b,λ j u a=>?_⟩;rw[oQ];refine d _ u ?_;rw[a4] at a;split at a
 .rw[List.getElem?_drop] at a;exact a
 .cases a
end
end
section
open Go.RowKit
attribute [local go_sem ↓] Go.wp_at_zero Go.wp_at_succ
theorem jk (a b c:Int) (w:World) :
  E5 30 #[ak am a,ak am b,ak am c] w (av (aW a b c)):=by
 by_cases h1:a<b
 .have d:=qh (oK (.inl h1):aW a b c=true);go_enter func30,ntmps30;go_wp2;go_ret;exact⟨aH (by rw[d.o]),rfl⟩
 by_cases h2:c<a
 .have d:=qh (oK (.inr h2):aW a b c=true);go_enter func30,ntmps30;go_wp2;go_ret;exact⟨aH (by rw[d.o]),rfl⟩
 .have d:=qh (oV (by omega) (by omega):aW a b c=false);go_enter func30,ntmps30;go_wp2;go_ret;exact⟨aH (by rw[d.o]),rfl⟩
theorem X3 (w:World):(zeroValue 3).run lM w = .ok (ak am 0) w:=by kernel_rfl
theorem uZ {w:World} {B0 c i m j:Nat} {x:jS} {f:aI} {N:List au} {K:aY} (h:aT w B0 c i m j x f N K) (s:ByteArray) (k:s.size<=maxLen) :
  E5 36 #[aq (some ⟨c,0,none⟩),ao s] w (ak am (fA N s)):=by
 obtain⟨p,d,g⟩:=h.by_;have b:=d.look underlying112 (X3 w) k;have o:w.cell? ⟨c,6,none⟩=some (.map (some i)):=h.blk.cell 6;rw[g s] at b;obtain⟨n,a⟩:=af (fA N s);rw[a] at b ⊢;by_cases h0:n<0
 .rw[if_pos h0] at b;have l:n = -1:=by
   rw[<- a] at h0 ⊢;unfold fA at h0 ⊢;split at h0
   .omega
   .rfl
  subst l;clear h g d a h0;go_enter func36,ntmps36;go_wp2;go_ret;exact⟨rfl,rfl⟩
 .rw[if_neg h0] at b;clear h g d a h0;go_enter func36,ntmps36;go_wp2;go_ret;exact⟨rfl,rfl⟩
end
section
def gW (N:List au):Prop:=∀ i (h:i<N.length),-1<=N[i].par/\N[i].par<i
theorem gW.snoc {N:List au} (h:gW N) {d:au} (c : -1<=d.par) (b:d.par<N.length):gW (N ++ [d]):=by
 intro i a;rw[aL] at a;by_cases hl:i<N.length
 .rw[List.getElem_append_left hl];exact h i hl
 .have:i=N.length:=by simp at a;omega
  subst this;simp[c,b]
mutual
theorem ItemD.aeX:∀ (f:ItemD) (a:List au) (b e d:Int) (c:List ByteArray),gW a -> -1<=b->b<a.length->gW (f.add a b e d c)/\a.length<=(f.add a b e d c).length
 | .mk k nm iff ph items sh cnt over ans cmp,a,b,e,d,c,h,h1,h2=>by
  rw[ItemD.add];have:=JH items (a ++ [⟨.mk k nm iff ph items sh cnt over ans cmp,b,e,d,c⟩]) a.length 0 (d+1) (if k=3 then c ++ [nm] else c) (h.snoc h1 h2) (by omega) (by simp;omega);rw[aL] at this;exact⟨this.1,by have:=this.2;omega⟩
theorem JH:∀ (l:List ItemD) (c:List au) (d e f:Int) (g:List ByteArray),gW c -> -1<=d->d<c.length->gW (iZ l c d e f g)/\c.length<=(iZ l c d e f g).length
 | [],c,_,_,_,_,h,_,_=>by rw[iZ];exact⟨h,aD _⟩
 | it :: r,c,d,e,f,g,h,h1,h2=>by
  rw[iZ];split
  .exact⟨h,aD _⟩
  .obtain⟨a,b⟩:=ItemD.aeX it c d e f g h h1 h2;obtain⟨a',i⟩:=JH r (it.add c d e f g) d (e+1) f g a h1 (by omega);exact⟨a',by omega⟩
end
theorem X4 (f:aI):gW (ai f):=(JH f.items [] (-1) 0 1 [] (λ i h=>by simp at h) (by omega) (by simp)).1
theorem iD {N:List au} {i:Nat} (h:i<N.length):jY N (i:Int)=N[i]:=by simp[jY,List.getD,h]
theorem pF {N:List au} {n:Int} (h:n<0):∀ f,JE N f n = []
 | 0=>rfl
 | f+1=>by rw[JE,if_pos h]
theorem Bf {N:List au} (a:gW N):∀ (f:Nat) (n:Int),n<N.length->n.toNat+1<=f->JE N f n=JE N (n.toNat+1) n
 | 0,n,_,h=>by omega
 | f+1,n,hn,h=>by
  by_cases h0:n<0
  .rw[pF h0,pF h0]
  .rw[JE,JE,if_neg h0,if_neg h0];obtain⟨i,rfl⟩:∃ i:Nat,n=i:=⟨n.toNat,by omega⟩;have b:i<N.length:=by omega
   obtain⟨d,c⟩:=a i b;rw[iD b];congr 1;by_cases h3:N[i].par<0
   .rw[pF h3,pF h3]
   .rw[Bf a f _ (by omega) (by omega),Bf a ((i:Int)).toNat _ (by omega) (by omega)]
theorem sZ {N:List au} {n:Int} (h:n<0):ups N n = []:=pF h _
theorem ve {N:List au} (b:gW N) {i:Nat} (a:i<N.length):ups N i=(i:Int) :: ups N N[i].par:=by
 obtain⟨d,c⟩:=b i a;unfold ups;rw[JE,if_neg (by omega),iD a];congr 1;by_cases h3:N[i].par<0
 .rw[pF h3,pF h3]
 .rw[Bf b ((i:Int)).toNat _ (by omega) (by omega)]
open Go.RowKit
attribute [local go_sem ↓] Go.wp_at_zero Go.wp_at_succ
theorem wJ {N:List au} {s:ByteArray} (h:¬ fA N s<0):∃ i:Nat,fA N s=i/\i<N.length:=by
 unfold fA at h ⊢;split at h
 .rename_i i a;exact⟨i,rfl,(List.findIdx?_eq_some_iff_findIdx_eq.1 a).1⟩
 .exact absurd (by decide) h
theorem aT.nd_ {w:World} {B0 j k m g:Nat} {x:jS} {f:aI} {N:List au} {K:aY} (h:aT w B0 j k m g x f N K) {i:Nat} (d:i<N.length) :
  ∃ ad A c,x.AN=some ad/\ad.block<w.heap.size/\w.cell? (ad.add (i*23))=some (ak am N[i].it.k)/\w.cell? ⟨(ad.add (i*23)).block,(ad.add (i*23)).off+1,none⟩=some (ao N[i].it.nm)/\w.cell? ⟨(ad.add (i*23)).block,(ad.add (i*23)).off+5,none⟩=some (av N[i].it.sh)/\w.cell? ⟨(ad.add (i*23)).block,(ad.add (i*23)).off+8,none⟩=some (ak am N[i].it.ans.k)/\w.cell? ⟨(ad.add (i*23)).block,(ad.add (i*23)).off+19,none⟩=some (ak am N[i].par)/\w.cell? ⟨(ad.add (i*23)).block,(ad.add (i*23)).off+21,none⟩=some (ak am N[i].dm)/\w.cell? ⟨(ad.add (i*23)).block,(ad.add (i*23)).off+22,none⟩=some (ap A N[i].lo.length c)/\kz w w.heap.size A c N[i].lo:=by
 obtain⟨ad,cs,e,l,⟨n,A,c,rfl,hit,b,-,-⟩,a⟩:=h.nodes.at_ d;refine⟨ad,A,c,e,l,?_⟩;cases hit;exact⟨a 0 _ rfl,a 1 _ rfl,a 5 _ rfl,a 8 _ rfl,a 19 _ rfl,a 21 _ rfl,a 22 _ rfl,b⟩
theorem JI {w:World} {B0 k u y t:Nat} {x:jS} {f:aI} {N:List au} {K:aY} (h:aT w B0 k u y t x f N K) (s:ByteArray) (v:s.size<=maxLen) :
  E5 173 #[aq (some ⟨k,0,none⟩),ao s] w (ak am (uU N s)):=by
 have g:=qh (uZ h s v);have c5:w.cell? ⟨k,5,none⟩=some (ap x.AN N.length x.cn):=h.blk.cell 5;have a:=qh (show uU N s=if 0<=fA N s/\(jY N (fA N s)).it.k≠4 then -1 else fA N s from rfl);by_cases h0:fA N s<0
 .have b:=qh (show uU N s=fA N s by rw[a.o,if_neg (by omega)]);obtain⟨n,d⟩:=af (fA N s);rw[d] at g b h0;rw[b.o];clear h d;go_enter func173,ntmps173;go_wp2_with (go_at_call 36;(with_reducible refine g.o.mono ?_);rintro p o ⟨rfl,rfl⟩);go_ret;exact⟨rfl,rfl⟩
 .obtain⟨i,d,m⟩:=wJ h0;obtain⟨ad,A,c,j,-,z,-,-,-,-,-,-,-⟩:=h.nd_ m;rw[j] at c5;rw[d] at g a;rw[iD m] at a;have r:=h.cap;have B:=h.nodes.1;by_cases h4:N[i].it.k=4
  .have b:=qh (show uU N s=i by rw[a.o,if_neg (λ q=>q.2 h4)]);rw[b.o];have l:(N[i].it.k != 4)=false:=by simp[h4]
   clear h j h4 a d h0;go_enter func173,ntmps173;go_wp2_with (go_at_call 36;(with_reducible refine g.o.mono ?_);rintro p o ⟨rfl,rfl⟩);go_ret;exact⟨rfl,rfl⟩
  .have b:=qh (show uU N s = -1 by rw[a.o,if_pos ⟨by omega,h4⟩]);rw[b.o];have l:(N[i].it.k != 4)=true:=by simpa using h4
   clear h j h4 a d h0;go_enter func173,ntmps173;go_wp2_with (go_at_call 36;(with_reducible refine g.o.mono ?_);rintro p o ⟨rfl,rfl⟩);go_ret;exact⟨rfl,rfl⟩
theorem Qn {w:World} {B0 s M S I:Nat} {x:jS} {f:aI} {N:List au} {K:aY} (h:aT w B0 s M S I x f N K) (r:gW N)  (n:Nat) (j:n<N.length) :
  E5 114 #[aq (some ⟨s,0,none⟩),ak am n] w (av (sV N n)):=by
 have c5:w.cell? ⟨s,5,none⟩=some (ap x.AN N.length x.cn):=h.blk.cell 5;have G:=h.cap;have T:=h.nodes.1;obtain⟨ad,A,c,o,-,l,-,-,-,d,-,-,-⟩:=h.nd_ j;have L:=qh (λ (i:Nat) (a:i<N.length)=>(show w.cell? (ad.add (i*23))=some (ak am N[i].it.k)/\w.cell? ⟨(ad.add (i*23)).block,(ad.add (i*23)).off+19,none⟩=some (ak am N[i].par) by
  obtain⟨z,A',c',C,-,P,-,-,-,Q,-,-,-⟩:=h.nd_ a;have:z=ad:=Option.some.inj (C.symm.trans o);subst this;exact⟨P,Q⟩))
 rw[o] at c5;obtain⟨R,m⟩:=af (sV N n);have u:=qh m;rw[m];have F:=qh r;obtain⟨t,H⟩:=r n j;obtain⟨p,y⟩:=af (N[n].par);unfold sV at u;rw[iD j,y] at u;rw[y] at d t H;clear h o m r y;go_enter func114,ntmps114;go_wp2;go_loopw [5] (λ i wr=>∃ p:Int,i = ak am p /\ -1<=p/\p<N.length/\Hid (R=(ups N p).any (λ x=>decide ((jY N x).it.k=1)))/\wr=w) (λ i _=>(intOf i+1).toNat)
 case atStart=>exact⟨p,rfl,t,by omega,qh u.o.symm,rfl⟩
 case round =>
  obtain⟨p,rfl,J,O,D,rfl⟩:=hrel;clear l d t H j;by_cases h0:p<0
  .have b:=qh (show R=false by rw[D.o,sZ h0];rfl);go_wp2;go_ret;exact⟨aH (by rw[b.o]),rfl⟩
  .obtain⟨i,rfl⟩:∃ i:Nat,p=i:=⟨p.toNat,by omega⟩;have a:i<N.length:=by omega
   obtain⟨l,d⟩:=L.o i a;obtain⟨s1,s2⟩:=F.o i a;have g:=qh (D.o.trans (by rw[ve F.o a,bb]:_=(decide ((jY N (i:Int)).it.k=1) || (ups N N[i].par).any (λ x=>decide ((jY N x).it.k=1)))));obtain⟨k,B⟩:=af (N[i].it.k);obtain⟨q,E⟩:=af (N[i].par);rw[show (jY N (i:Int)).it.k=k from by rw[iD a,B]] at g;rw[B] at l;rw[E] at d s1 s2 g;clear B E;by_cases ht:k=1
   .have b:=qh (show R=true by rw[g.o,decide_eq_true ht,Bool.true_or]);go_wp2;go_ret;exact⟨aH (by rw[b.o]),rfl⟩
   .have b:=qh (show R=(ups N q).any (λ x=>decide ((jY N x).it.k=1)) by rw[g.o,decide_eq_false ht,Bool.false_or]);have v:=qh (And.intro s1 s2);go_wp2;go_roundw
    case rel=>exact⟨q,rfl,v.o.1,by have:=v.o.2;omega,b,by first | rfl | trivial⟩
    case measure =>
     have:=v.o;simp only[intOf];omega
theorem Qo {w:World} {B0 s O T J:Nat} {x:jS} {f:aI} {N:List au} {K:aY} (h:aT w B0 s O T J x f N K) (r:gW N) (a:Int) (n:Nat) (j:n<N.length) :
  E5 217 #[aq (some ⟨s,0,none⟩),ak am a,ak am n] w (av (yV N a n)):=by
 have c5:w.cell? ⟨s,5,none⟩=some (ap x.AN N.length x.cn):=h.blk.cell 5;have G:=h.cap;have U:=h.nodes.1;obtain⟨ad,A,c,o,-,l,-,-,-,g,-,-,-⟩:=h.nd_ j;have M:=qh (λ (i:Nat) (b:i<N.length)=>(show w.cell? (ad.add (i*23))=some (ak am N[i].it.k)/\w.cell? ⟨(ad.add (i*23)).block,(ad.add (i*23)).off+19,none⟩=some (ak am N[i].par) by
  obtain⟨B,A',c',C,-,Q,-,-,-,S,-,-,-⟩:=h.nd_ b;have:B=ad:=Option.some.inj (C.symm.trans o);subst this;exact⟨Q,S⟩))
 rw[o] at c5;obtain⟨R,m⟩:=af (yV N a n);have v:=qh m;rw[m];have F:=qh r;obtain⟨t,H⟩:=r n j;obtain⟨p,z⟩:=af (N[n].par);unfold yV at v;rw[iD j,z] at v;rw[z] at g t H;clear h o m r z;go_enter func217,ntmps217;go_wp2;go_loopw [2] (λ i wr=>∃ p:Int,i = ak am p /\ -1<=p/\p<N.length/\Hid (R=(ups N p).any (λ x=>decide (x=a)))/\wr=w) (λ i _=>(intOf i+1).toNat)
 case atStart=>exact⟨p,rfl,t,by omega,qh v.o.symm,rfl⟩
 case round =>
  obtain⟨p,rfl,L,P,D,rfl⟩:=hrel;clear l g t H j;by_cases h0:p<0
  .have d:=qh (show R=false by rw[D.o,sZ h0];rfl);go_wp2;go_ret;exact⟨aH (by rw[d.o]),rfl⟩
  .obtain⟨i,rfl⟩:∃ i:Nat,p=i:=⟨p.toNat,by omega⟩;have b:i<N.length:=by omega
   obtain⟨l,g⟩:=M.o i b;obtain⟨s1,s2⟩:=F.o i b;have u:=qh (D.o.trans (by rw[ve F.o b,bb]:_=(decide ((i:Int)=a) || (ups N N[i].par).any (λ x=>decide (x=a)))));obtain⟨k,I⟩:=af (N[i].it.k);obtain⟨q,E⟩:=af (N[i].par)
   skip
   rw[I] at l;rw[E] at g s1 s2 u;clear I E;by_cases ht:(i:Int)=a
   .have d:=qh (show R=true by rw[u.o,decide_eq_true ht,Bool.true_or]);go_wp2;go_ret;exact⟨aH (by rw[d.o]),rfl⟩
   .have d:=qh (show R=(ups N q).any (λ x=>decide (x=a)) by rw[u.o,decide_eq_false ht,Bool.false_or]);have y:=qh (And.intro s1 s2);go_wp2;go_roundw
    case rel=>exact⟨q,rfl,y.o.1,by have:=y.o.2;omega,d,by first | rfl | trivial⟩
    case measure =>
     have:=y.o;simp only[intOf];omega
open Go.Lib Go.Sort
theorem aeY:(lM.info? 3).map (λ i=>(i.zero,i.size,i.bytes))=some (some (.int .i64 0),1,8):=by kernel_rfl
theorem dX {w:World} {b size n:Nat} {e:TypeId} {v:Value} {xs:List Value} (h:w.ownsRow b e size v n xs):∃ A c,v = ap A n c:=by
 rcases h.2 with ⟨rfl,a⟩ | ⟨i,f,d,g,-⟩
 .exact⟨none,0,by first | rw[a] | rw[a.1]⟩
 .exact⟨_,_,g⟩
theorem Qp {B:Nat} {w:World} {g q:Nat} {d:Array Int} (h:B<=g):Below B w (putRow (aM am) (Sort.ahead w q) g 0 d):=by
 refine⟨rfl,rfl,rfl,?_,λ k a=>?_⟩
 .unfold putRow mapBlock;simp[Sort.ahead]
 .unfold putRow mapBlock;simp only[Sort.ahead,Array.getElem?_modify];rw[if_neg (by omega)]
theorem X5 (d:Array Int) (a:Array Value) (c:d.size<=a.size):(putCells (aM am) 0 d a).toList.take d.size=bK am d.toList:=by
 apply List.ext_getElem?;intro i;rw[a4];by_cases hi:i<d.size
 .rw[if_pos hi];unfold putCells bK;have b:i<a.size:=by omega
  simp only[Array.getElem?_toList,Array.getElem?_mapIdx,bc,Array.getElem?_eq_getElem b,Array.getElem?_eq_getElem hi,Option.map_some];rw[if_pos (by omega)];simp[hi]
 .rw[if_neg hi,List.getElem?_eq_none (by rw[uQ];simpa using hi)]
theorem Nq {B:Nat} {v:Value} (l:List Int) (w:World) (h:w.ownsRow B 3 1 v l.length (bK am l)) (y:l.length<=1000000) :
  Calls lM 233 #[v] w λ e w'=>e = .returned (.tuple #[])/\w'.ownsRow B 3 1 v l.length (bK am l.reverse)/\Below B w w':=by
 obtain⟨n,⟨rfl,u⟩ | ⟨g,c,cur,rfl,k,m,t,p,d,f⟩⟩:=h
 .have x:l = []:=by
   cases l with
   | nil=>rfl
   | cons a r=>simp[bK] at u
  subst x;refine (Tryz.slices_Reverse_int_empty none 0 w).mono ?_;rintro e w' ⟨rfl,rfl⟩;exact⟨rfl,World.ownsRow_nil _ _ _ _,Below.refl _ _⟩
 .rw[a5] at d f;have i:ah w g 3 cur:=m;have o:Holds (aM am) w g 0 l.toArray:=by
   intro j s;have b:j<l.length:=by simpa using s
   refine⟨?_,i.frozen _⟩;rw[i.cell,Nat.zero_add];have e:(cur.toList.take l.length)[j]?=(bK am l)[j]?:=by rw[f]
   rw[a4,if_pos (by omega)] at e;rw[<- Array.getElem?_toList,e];unfold bK;rw[bc,List.getElem?_eq_getElem b];simp[b]
  refine (Tryz.slices_Reverse_int g 0 c l w o (by omega)).mono ?_;rintro e w' ⟨rfl,q,rfl⟩;refine⟨rfl,⟨by rw[uQ,aV,a5],.inr ⟨g,c,putCells (aM am) 0 l.reverse.toArray cur,rfl,k,?_,t,p,?_,?_⟩⟩,Qp k⟩
  .unfold putRow mapBlock;simp only[Sort.ahead,Array.getElem?_modify,if_true,m];rfl
  .unfold putCells;simp[d]
  .rw[a5];have:=X5 l.reverse.toArray cur (by simp[d];omega);simp only[List.size_toArray,aV] at this;exact this
theorem JJ {N:List au} (a:gW N):∀ (k:Nat) (n:Int),n<N.length->n<k->(ups N n).length<=k
 | 0,n,_,h=>by rw[sZ (by omega)];simp
 | k+1,n,hn,h=>by
  by_cases h0:n<0
  .rw[sZ h0];simp
  .obtain⟨i,rfl⟩:∃ i:Nat,n=i:=⟨n.toNat,by omega⟩;have b:i<N.length:=by omega
   obtain⟨d,c⟩:=a i b;rw[ve a b,aw];have:=JJ a k N[i].par (by omega) (by omega);omega
theorem SQ {w:World} {B0 o T m2 P:Nat} {x:jS} {f:aI} {N:List au} {K:aY} (h:aT w B0 o T m2 P x f N K) (D:gW N) (n:Nat) (hn:n<N.length) :
  Calls lM 210 #[aq (some ⟨o,0,none⟩),ak am n] w λ e w'=>(∃ v,e = .returned v/\w'.ownsRow w.heap.size 3 1 v (yU N n).length (bK am (yU N n)))/\DD w w':=by
 obtain⟨i0,F,C,G,y⟩:=info_parts aeY;have J:=h.cap;have tq:=h.nodes.1;have S:=qh (λ (wr:World) (m:DD w wr) (i:Nat) (k:i<N.length)=>show ∃ ad,x.AN=some ad/\wr.cell? ⟨o,5,none⟩=some (ap (some ad) N.length x.cn)/\wr.cell? ⟨(ad.add (i*23)).block,(ad.add (i*23)).off+19,none⟩=some (ak am N[i].par) from by
  have L:=h.keep m;obtain⟨ad,A,c,B,-,-,-,-,-,t,-,-,-⟩:=L.nd_ k;have c5:wr.cell? ⟨o,5,none⟩=some (ap x.AN N.length x.cn):=L.blk.cell 5;rw[B] at c5;exact⟨ad,B,c5,t⟩)
 have I:=qh D;have X:=qh (show (ups N n).length<=301 by have:=JJ D (n+1) n (by omega) (by omega);omega);have HW:=qh (show yU N n=(ups N n).reverse from rfl);clear h D;go_enter func210,ntmps210;go_wp2;go_loopw [1,5] (λ i v wr=>∃ (p:Int) (l:List Int),i = ak am p /\ -1<=p/\p<N.length/\wr.ownsRow w.heap.size 3 1 v l.length (bK am l)/\Hid (l ++ ups N p=ups N n)/\DD w wr) (λ i _ _=>(intOf i+1).toNat)
 case atStart=>exact⟨n,[],rfl,by omega,by omega,World.ownsRow_nil _ _ _ _,qh rfl,Below.refl _ _⟩
 case round =>
  obtain⟨p,l,rfl,Q,U,d,r,m⟩:=hrel;have Z:=m.size;have HO:=qh d;have Y:l.length<=301:=by have:=X.o;rw[<- r.o,aL] at this;omega
  obtain⟨A9,c9,rfl⟩:=dX d;by_cases h0:p<0
  .have O:=qh (show l=ups N n by rw[<- r.o,sZ h0,List.append_nil]);clear d;go_wp2_with (go_at_call 233;(with_reducible refine (Nq l _ HO.o (by omega)).mono ?_);rintro e2 w2 ⟨rfl,H,b⟩);go_ret;refine⟨⟨_,rfl,?_⟩,m.trans b⟩;rw[HW.o,<- O.o,aV];exact H
  .obtain⟨i,rfl⟩:∃ i:Nat,p=i:=⟨p.toNat,by omega⟩;have k:i<N.length:=by omega
   have E:=qh (And.intro (I.o i k) (ve I.o k));have z:=d.alloc (.cells #[.int .i64 i] 3 (0,0));have aa:=qh d;obtain⟨q,s⟩:=af (N[i].par);have HQ:=qh s;rw[s] at E;clear d s;go_wp2_with (at_builtin;refine wpList_append_own _ rfl _ _ 54 rfl w.heap.size 3 i0 (.int .i64 0) 1 8 underlying54 F C G y rfl (by decide) _ _ _ rfl z ⟨wr.heap.size,0,none⟩ 1 1 [.int .i64 i] rfl rfl ?c1 ?c2 ?c3 ?c4 ?c5 ?_)
   case c2=>first | rfl | (intro u M;simp only[List.mem_singleton] at M;subst M;rfl)
   case c3=>unfold maxLen;omega
   case c4=>omega
   case c5=>first | omega | (simp;omega)
   intro v2 w2 a j _;have b:RowKit.Below w.heap.size w w2:=(m.alloc Z _).grown j (by simp;omega) (λ g hg=>(z.lt g hg).1);obtain⟨ad,B,c5,t⟩:=S.o w2 b i k;have R:=qh (show w2.ownsRow w.heap.size 3 1 v2 (l ++ [(i:Int)]).length (bK am (l ++ [(i:Int)])) by
    have:=a;rw[show bK am l ++ [aM am (i:Int)]=bK am (l ++ [(i:Int)]) by simp[bK]] at this;rw[aL];exact this)
   rw[HQ.o] at t;clear a j z;go_wp2;go_roundw
   case rel =>
    obtain⟨⟨V,q2⟩,W⟩:=E.o;exact⟨q,l ++ [(i:Int)],rfl,V,by omega,R.o,qh (by rw[List.append_assoc,List.singleton_append,<- W];exact r.o),b⟩
   case measure =>
    have:=E.o.1;simp only[intOf];omega
end
open Go.RowKit
attribute [local go_sem ↓] Go.wp_at_zero Go.wp_at_succ
theorem SS {N:List au} (b:gW N):∀ (k:Nat) (n:Int),n<N.length->n<k->∀ y∈ups N n,0<=y/\y<N.length
 | 0,n,_,h,y,a=>by rw[sZ (by omega)] at a;cases a
 | k+1,n,hn,h,y,a=>by
  by_cases h0:n<0
  .rw[sZ h0] at a;cases a
  .obtain⟨i,rfl⟩:∃ i:Nat,n=i:=⟨n.toNat,by omega⟩;have c:i<N.length:=by omega
   obtain⟨e,d⟩:=b i c;rw[ve b c] at a;rcases List.mem_cons.1 a with rfl | a
   .omega
   .exact SS b k N[i].par (by omega) (by omega) y a
theorem ab9 {N:List au} (b:gW N) {n:Nat} (c:n<N.length):∀ y∈yU N n,0<=y/\y<N.length:=λ y a=>SS b (n+1) n (by omega) (by omega) y (List.mem_reverse.1 a)
theorem SV {N:List au} (a:gW N) {n:Nat} (b:n<N.length):(yU N n).length<=n+1:=by
 unfold yU;rw[aV];exact JJ a (n+1) n (by omega) (by omega)
theorem UL {N:List au} {X Y:List Int} {k:Nat} (a:k<X.length) (b:k<Y.length):sU N (X.drop k) (Y.drop k)=if X[k]=Y[k] then sU N (X.drop (k+1)) (Y.drop (k+1)) else decide ((jY N X[k]).par<0) || decide ((jY N (jY N X[k]).par).it.k≠2) || !(jY N (jY N X[k]).par).it.sh:=by
 rw[bd a,bd b,sU]
theorem Nr {N:List au} {X Y:List Int} {k:Nat} (h:¬ (k<X.length/\k<Y.length)):sU N (X.drop k) (Y.drop k)=true:=by
 by_cases hx:k<X.length
 .have e:Y.drop k = []:=a1 (by omega);rw[e];cases X.drop k <;> rfl
 .have e:X.drop k = []:=a1 (by omega);rw[e];cases Y.drop k <;> rfl
theorem wK {w:World} {B0 J m1 m2 m3:Nat} {x:jS} {f:aI} {N:List au} {K:aY} (h:aT w B0 J m1 m2 m3 x f N K) (r:gW N) (a n:Nat) (ha:a<N.length) (hn:n<N.length) :
  CS 174 #[aq (some ⟨J,0,none⟩),ak am a,ak am n] w (av (iW N a n)):=by
 have M:=qh (show iW N a n=(decide ((a:Int)<n) && sU N (yU N a) (yU N n)) from rfl);by_cases h0:n<=a
 .have HR:=qh (show iW N a n=false by rw[M.o,decide_eq_false (by omega)];rfl);go_enter func174,ntmps174;go_wp2;go_ret;exact⟨aH (by rw[HR.o]),Below.refl _ _⟩
 have H1:=qh (SQ h r a ha);have H2:=qh (λ (w1:World) (V:DD w w1)=>SQ (h.keep V) r n hn);have s:=qh (show iW N a n=sU N (yU N a) (yU N n) by rw[M.o,decide_eq_true (by omega)];rfl);have aa:=SV r ha;have ab:=SV r hn;have C:=qh (ab9 r ha);have HP:=qh r;have ac:=h.cap;have tq:=h.nodes.1;have HK:=qh (λ (wr:World) (V:DD w wr) (i:Nat) (B:i<N.length)=>show ∃ ad,x.AN=some ad/\wr.cell? ⟨J,5,none⟩=some (ap (some ad) N.length x.cn)/\wr.cell? (ad.add (i*23))=some (ak am N[i].it.k)/\wr.cell? ⟨(ad.add (i*23)).block,(ad.add (i*23)).off+5,none⟩=some (av N[i].it.sh)/\wr.cell? ⟨(ad.add (i*23)).block,(ad.add (i*23)).off+19,none⟩=some (ak am N[i].par) from by
  have y:=h.keep V;obtain⟨ad,A,c,G,-,Q,-,U,-,S,-,-,-⟩:=y.nd_ B;have c5:wr.cell? ⟨J,5,none⟩=some (ap x.AN N.length x.cn):=y.blk.cell 5;rw[G] at c5;exact⟨ad,G,c5,Q,U,S⟩)
 obtain⟨X,hX⟩:=af (yU N a);obtain⟨Y,hY⟩:=af (yU N n);rw[hX] at H1 s aa C;rw[hY] at H2 s ab;have ae:(a:Int)<n:=by omega
 clear h r hX hY M h0;go_enter func174,ntmps174;go_wp2_with (first
  | (go_at_call 210;(with_reducible refine H1.o.mono ?_);rintro e1 w1 ⟨⟨vx,rfl,O⟩,o⟩)
  | (go_at_call 210;(with_reducible refine (H2.o _ o).mono ?_);rintro e2 w2 ⟨⟨vy,rfl,P⟩,t⟩))
 obtain⟨AX,cx,rfl⟩:=dX O;obtain⟨AY,cy,rfl⟩:=dX P;have Qq:=t.mono o.size;have m:=o.trans Qq;have R:=qh ((Reads.fB O).below t);have HY:=qh (Reads.fB P);clear O P;go_loopw [9] (λ i wr=>∃ k:Nat,i = ak am k/\k<=301/\Hid (iW N a n=sU N (X.drop k) (Y.drop k))/\DD w2 wr) (λ i _=>302 - (intOf i).toNat)
 case atStart=>exact⟨0,rfl,by omega,s,Below.refl _ _⟩
 case round =>
  obtain⟨k,rfl,hk,HD,g⟩:=hrel;have d:=m.trans (g.mono m.size);have R:=qh (R.o.below (g.mono t.size));have HY:=qh (HY.o.below g);by_cases hkx:k<X.length
  .by_cases hky:k<Y.length
   .obtain⟨ax,u,rfl,-,hu,qx⟩:=R.o.at_ hkx;obtain⟨ay,v,rfl,-,hv,qy⟩:=HY.o.at_ hky;obtain⟨_,rfl⟩:=oU _ _ _ _ hu;obtain⟨_,rfl⟩:=oU _ _ _ _ hv;have D:=qh (HD.o.trans (UL hkx hky));have Z:=qh (C.o X[k] (List.getElem_mem hkx));obtain⟨T,z⟩:=af (X[k]);obtain⟨Y0,E⟩:=af (Y[k]);rw[z] at qx D Z;rw[E] at qy D;clear hu hv z E;by_cases hxy:T=Y0
    .subst hxy;have HF:=qh (D.o.trans (if_pos rfl));go_upto_region 7 with (fail);go_region;go_wp2;go_roundw
     case rel=>exact⟨k+1,by go_num,by omega,HF,by first | exact g | exact g.drew⟩
     case measure =>
      simp[intOf];omega
    .obtain⟨i,rfl⟩:∃ i:Nat,T=i:=⟨T.toNat,by have:=Z.o;omega⟩;have B:i<N.length:=by have:=Z.o;omega
     obtain⟨ad,G,c5,-,-,S⟩:=HK.o wr d i B;have b:=qh (D.o.trans (if_neg hxy));rw[iD B] at b;have L:=qh (HP.o i B);obtain⟨p,hp⟩:=af (N[i].par);rw[hp] at b S L;clear hp;by_cases hp0:p<0
     .have l:=qh (show iW N a n=true by rw[b.o,decide_eq_true hp0];rfl);go_upto_region 7 with (fail);go_region;go_upto_region 8 with (fail);go_region;go_wp2;go_ret;exact⟨aH (by rw[l.o]),by first | exact d | exact d.drew | exact d.drew.drew⟩
     .obtain⟨j,rfl⟩:∃ j:Nat,p=j:=⟨p.toNat,by omega⟩;have hj:j<N.length:=by have:=L.o;omega
      obtain⟨W,H,-,Q,U,-⟩:=HK.o wr d j hj;have e':W=ad:=Option.some.inj (H.symm.trans G);subst e';rw[iD hj,decide_eq_false hp0,Bool.false_or] at b;obtain⟨kk,F⟩:=af (N[j].it.k);obtain⟨ss,I⟩:=af (N[j].it.sh);rw[F] at Q b;rw[I] at U b;have L:=qh L.o;clear F I G H D;by_cases y:kk=2
      .subst y;have l:=qh (show iW N a n=!ss by rw[b.o];rfl);go_upto_region 7 with (fail);go_region;go_upto_region 8 with (fail);go_region;go_wp2;go_ret;exact⟨aH (by rw[l.o]),by first | exact d | exact d.drew | exact d.drew.drew⟩
      .have l:=qh (show iW N a n=true by rw[b.o,decide_eq_true y];rfl);have ag:(kk != 2)=true:=by simpa using y
       go_upto_region 7 with (fail);go_region;go_upto_region 8 with (fail);go_region;go_wp2;go_ret;exact⟨aH (by rw[l.o]),by first | exact d | exact d.drew | exact d.drew.drew⟩
   .have l:=qh (HD.o.trans (Nr (λ q=>hky q.2)));go_wp2;go_ret;exact⟨aH (by rw[l.o]),by first | exact d | exact d.drew | exact d.drew.drew⟩
  .have l:=qh (HD.o.trans (Nr (λ q=>hkx q.1)));go_wp2;go_ret;exact⟨aH (by rw[l.o]),by first | exact d | exact d.drew | exact d.drew.drew⟩
end Go.Proofs.YtcnagconagpkcaaGreatDoor
