/- Lemmas. -/
import Derived.Lib.Replace
import Derived.Lib.IndexMore
import Derived.Test.YtcnagconagpkcaaGreatDoorZ4
import Derived.Lib.Split
import Derived.Lib.TrimByte
import Derived.Lib.Strings
import Derived.Lib.Join
import Derived.Lib.Small
import Derived.Lib.AtoiAll
import Derived.Lib.SlTrimSet
open Go.Value renaming int->aa, string->ac, slice->ae, pointer->ak, bool->am, int->ax
open Go.IntKind renaming i64->ab
open List renaming length_cons->ao, isPrefixOf->av, length_append->aw, mem_cons_self->aD, mem_cons_of_mem->aE, length->aM, getElem?_take->aR, length_reverse->aZ, length_pos_iff->a0, singleton_append->a2, cons_append->a3, nil_append->a4, drop_append->a5, map_cons->a6, sum_cons->a7, length_tail->a9, any_cons->ba, getElem?_map->bd
open Nat renaming le_refl->ap, mul_one->aX, add_comm->a1, mul_succ->a8
open Go.Lib renaming join->aq, joinTail->aL
open Bool renaming false_eq_true->ay, true_or->bb, false_or->bc
namespace Go.Proofs.YtcnagconagpkcaaGreatDoor.Vtx
open Go.Lib
def subst1 (c:UInt8) (new:List UInt8) (s:List UInt8):List UInt8:=s.flatMap λ b=>if b=c then new else [b]
def Us:List UInt8->List UInt8
 | a :: b :: r=>if a=39/\b=39 then 39 :: Us r else a :: Us (b :: r)
 | l=>l
theorem Ht (old new:List UInt8) (k:Nat) (s:List UInt8) (h:index s old = -1):replaceK old new k s=s:=by
 cases k with
 | zero=>rfl
 | succ k=>unfold replaceK;rw[if_pos (by simp[h])]
theorem tY (b:UInt8) (l a:List UInt8):index (b :: l) a=if a.isPrefixOf (b :: l) then 0 else if index l a = -1 then -1 else index l a+1:=by
 rw[index];simp
theorem count_le (s a:List UInt8) (b:a≠[]):∀ f,s.length<f->∀ g,s.length<g->countFrom a f s=countFrom a g s:=by
 intro f
 induction f generalizing s with
 | zero=>intro h;omega
 | succ f ih =>
  intro h g j;cases g with
  | zero=>omega
  | succ g =>
   unfold countFrom;by_cases hi:index s a = -1
   .simp[hi]
   .have c:(index s a == -1)=false:=by simpa using hi
    have d:=index_ge s a;have i:=index_room s a (by omega);have e:0<a.length:=a0.2 b;simp only[c,ay,if_false];congr 1;exact ih _ (by simp;omega) g (by simp;omega)
theorem count_hit {s sub:List UInt8} {i:Nat} (a:sub≠[]) (h:index s sub=i):count s sub=1+count (s.drop (i+sub.length)) sub:=by
 have d:=index_room s sub (by omega);have c:0<sub.length:=a0.2 a;rw[count,countFrom];have b:(index s sub == -1)=false:=by rw[h];rw[beq_eq_false_iff_ne];omega
 simp only[b,ay,if_false];rw[h,Int.toNat_natCast];congr 1;unfold count;exact count_le _ _ a _ (by simp;omega) _ (by omega)
def BH (old new:List UInt8):List UInt8->List UInt8:=λ s=>replaceK old new (count s old) s
theorem BJ {s old new:List UInt8} (h:index s old = -1):BH old new s=s:=Ht _ _ _ _ h
theorem ER {s old new:List UInt8} {i:Nat} (a:old≠[]) (h:index s old=i):BH old new s=s.take i ++ new ++ BH old new (s.drop (i+old.length)):=by
 unfold BH;rw[count_hit a h,a1,replaceK_hit _ _ _ _ _ h]
theorem lH {s old new:List UInt8} (h:old≠new):replaceAll s old new=BH old new s:=by
 unfold replaceAll replace replaceNum BH;rw[if_neg (by simpa using h),if_pos (by simp)]
theorem ES {old new:List UInt8} (a:old≠[]):BH old new [] = []:=BJ (by cases old;exact absurd rfl a;rfl)
theorem IG {old new r:List UInt8} (a:old≠[]):BH old new (old ++ r)=new ++ BH old new r:=by
 have h:index (old ++ r) old=(0:Nat):=by
  refine index_first (Nat.zero_le _) ?_ (λ j b=>absurd b (by omega));simp[occAt]
 rw[ER a h];simp
theorem BL {old new r:List UInt8} {b:UInt8} (d:old≠[]) (h:old.isPrefixOf (b :: r)=false):BH old new (b :: r)=b :: BH old new r:=by
 have a:=tY b r old;rw[h] at a;simp only[ay,if_false] at a;by_cases hr:index r old = -1
 .rw[if_pos hr] at a;rw[BJ a,BJ hr]
 .rw[if_neg hr] at a;obtain⟨i,c⟩:∃ i:Nat,index r old=i:=⟨(index r old).toNat,by have:=index_ge r old;omega⟩;rw[ER d (i:=i+1) (by rw[a,c];rfl),ER d c];simp[Nat.add_right_comm]
theorem Df (c:UInt8) (new s:List UInt8):BH [c] new s=subst1 c new s:=by
 induction s with
 | nil=>exact ES (by simp)
 | cons b r ih =>
  by_cases h:b=c
  .subst h;have:=IG (new:=new) (r:=r) (old:=[b]) (by simp);simp only[a2] at this;rw[this,ih];simp[subst1]
  .rw[BL (by simp) (by simp[av];exact λ e=>h e.symm),ih];simp[subst1,h]
theorem MZ (s:List UInt8):BH [39,39] [39] s=Us s:=by
 induction s using Us.induct with
 | case1 a b r h ih =>
  obtain⟨rfl,rfl⟩:=h;have:=IG (new:=[39]) (r:=r) (old:=[39,39]) (by simp);simp only[a3,a4] at this;rw[this,ih,Us,if_pos ⟨rfl,rfl⟩]
 | case2 a b r h ih =>
  rw[BL (by simp),ih,Us,if_neg h];simp only[av,Bool.and_true];rw[Bool.eq_false_iff];intro e;simp at e;exact h ⟨e.1.symm,e.2.symm⟩
 | case3 l h =>
  rcases l with _ | ⟨a,_ | ⟨b,r⟩⟩
  .rw[ES (by simp)];rfl
  .rw[BL (by simp) (by simp[av]),ES (by simp)];rfl
  .exact absurd rfl (h a b r)
theorem Ut (s:List UInt8):Us (subst1 39 [39,39] s)=s:=by
 induction s with
 | nil=>rfl
 | cons b r ih =>
  by_cases h:b=39
  .subst h;have e:subst1 39 [39,39] (39 :: r)=39 :: 39 :: subst1 39 [39,39] r:=by simp[subst1]
   rw[e,Us,if_pos ⟨rfl,rfl⟩,ih]
  .have e:subst1 39 [39,39] (b :: r)=b :: subst1 39 [39,39] r:=by simp[subst1,h]
   rw[e];cases hr:subst1 39 [39,39] r with
   | nil=>rw[hr] at ih;rw[<- ih];simp[Us]
   | cons d t=>rw[Us,if_neg (by simp[h]),<- hr,ih]
theorem back (s:List UInt8):replaceAll (replaceAll s [39] [39,39]) [39,39] [39]=s:=by
 rw[lH (by simp),lH (by simp),Df,MZ,Ut]
end Go.Proofs.YtcnagconagpkcaaGreatDoor.Vtx
namespace Go.Proofs.YtcnagconagpkcaaGreatDoor.Vtx
open Go.Lib Dig
def oQ (w:Nat) (n:Int):List UInt8:=zeros (w - (itoa n).length) ++ itoa n
def jq (m:Int):List UInt8:=trimRightB (oQ 4 m) 48
def oC (n:Int):Int:=if n<0 then -n else n
def qF (n:Int):List UInt8:=(if n<0 then [45] else []) ++ itoa (oC n / 10000) ++ (if jq (oC n % 10000) = [] then [] else 46 :: jq (oC n % 10000))
def iG (c:Int):List UInt8:=35 :: itoa c
def zF (l:List Int):List UInt8:=123 :: join (l.map iG) [44] ++ [125]
noncomputable def yH (n:Int):List UInt8:=64 :: oQ 4 (Cal.cy n) ++ [45] ++ oQ 2 (Cal.cm n) ++ [45] ++ oQ 2 (Cal.cd n)
def w1T:List UInt8:=[100,111,110,116,107,110,111,119]
def w2T:List UInt8:=[114,101,102,117,115,101,100]
def w3T:List UInt8:=[110,111,97,110,115,119,101,114]
def qL:List UInt8:=[116,114,117,101]
def ny:List UInt8:=[102,97,108,115,101]
def XC (n:Int):List UInt8:=if n=1 then w1T else if n=2 then w2T else w3T
def Na (s:List UInt8):List UInt8:=39 :: replaceAll s [39] [39,39] ++ [39]
noncomputable def showT (k n:Int) (s:List UInt8) (l:List Int):List UInt8:=
 if k=1 then XC n else if k=2 then qF n else if k=3 then Na s else if k=4 then iG n else if k=5 then zF l else if k=6 then yH n else
 if k=7 then (if n=1 then qL else ny) else [45]
def fO (b:UInt8):Bool:=decide (48<=b.toNat) && decide (b.toNat<=57)
def dF (l:List UInt8):Nat × Bool:=if l = []\/15<l.length then (0,false) else if l.all fO then (eu l,true) else (0,false)
def XD (l:List UInt8) (k:Nat):List UInt8:=l ++ zeros (k - l.length)
def jF (s:List UInt8):Option Int:=
 let d:=trimPrefix s [45];let part:=XD (cut d [46]).2.1 4;let a:=dF (cut d [46]).1;let b:=dF part
 if a.2=true/\b.2=true/\part.length<=4/\a.1<=99999999999 then
  some (if d.length<s.length then -((a.1*10000+b.1:Nat):Int) else ((a.1*10000+b.1:Nat):Int)) else none
def nN:List (List UInt8)->Option (List Int)
 | []=>some []
 | p :: r=>if (dF (trimPrefix p [35])).2 then (nN r).map (((dF (trimPrefix p [35])).1:Int) :: ·) else none
def ET (s:List UInt8):List UInt8:=trimSuffix (trimPrefix s [123]) [125]
def jG (s:List UInt8):Option (List Int):=if ET s = [] then some [] else nN (split (ET s) [44])
def jm (r:List UInt8):Option Int:=
 match split r [45] with
 | [a,b,c]=>if (dF a).2 && (dF b).2 && (dF c).2 && Cal.lT (dF a).1 (dF b).1 (dF c).1 then some (Cal.num (dF a).1 (dF b).1 (dF c).1) else none
 | _=>none
structure Q where
 k:Int
 n:Int
 s:List UInt8
 l:List Int
deriving DecidableEq
def bV (s:List UInt8):Option Q:=
 if s = [] then none else if s = [45] then some ⟨0,0,[],[]⟩ else if s=qL then some ⟨7,1,[],[]⟩ else if s=ny then some ⟨7,0,[],[]⟩ else
 if s.head?=some 39 then some ⟨3,0,replaceAll (trimSuffix s.tail [39]) [39,39] [39],[]⟩ else
 if s.head?=some 35 then (if (dF s.tail).2 then some ⟨4,(dF s.tail).1,[],[]⟩ else none) else
 if s.head?=some 123 then (jG s).map (⟨5,0,[],·⟩) else
 if s.head?=some 64 then (jm s.tail).map (⟨6,·,[],[]⟩) else
 if s=w1T then some ⟨1,1,[],[]⟩ else if s=w2T then some ⟨1,2,[],[]⟩ else if s=w3T then some ⟨1,3,[],[]⟩ else
 (jF s).map (⟨2,·,[],[]⟩)
inductive WG:Int->Int->List UInt8->List Int->Prop
 | none_:WG 0 0 [] []
 | word {n:Int} (h1:1<=n) (h2:n<=3):WG 1 n [] []
 | num {n:Int} (h1 : -999999999999999<=n) (h2:n<=999999999999999):WG 2 n [] []
 | text (s:List UInt8):WG 3 0 s []
 | code {n:Int} (h1:1<=n) (h2:n<=999):WG 4 n [] []
 | set {l:List Int} (h:∀ c∈l,1<=c/\c<=999):WG 5 0 [] l
 | day {n:Int} (h1 : -25567<=n) (h2:n<=84005):WG 6 n [] []
 | bool {n:Int} (h1:0<=n) (h2:n<=1):WG 7 n [] []
theorem lD (n:Nat):itoa (n:Int)=decDigits n:=by unfold itoa;rw[if_neg (by omega)];simp
theorem abo {l:List UInt8} (h:∀ b∈l,dK b):l.all fO=true:=by
 rw[List.all_eq_true];intro b a;have:=h b a;unfold dK at this;simp[fO,this.1,this.2]
theorem II {l:List UInt8} (h:∀ b∈l,dK b) (a:l≠[]) (c:l.length<=15):dF l=(eu l,true):=by
 unfold dF;rw[if_neg (by simp[a];omega),if_pos (abo h)]
theorem JG (n:Nat):decDigits n≠[]:=λ h=>by have:=abm n;rw[h] at this;simp at this
theorem BM {n:Nat} (h:(decDigits n).length<=15):dF (decDigits n)=(n,true):=by rw[II (xA n) (JG n) h,EK]
theorem Ea (w n:Nat):∀ b∈oQ w n,dK b:=by
 intro b a;unfold oQ at a;rw[lD] at a;rcases List.mem_append.1 a with h | h
 .exact Uo _ b h
 .exact xA n b h
theorem adH (w n:Nat):oQ w n≠[]:=by unfold oQ;rw[lD];simp[JG]
theorem abp (w n:Nat):eu (oQ w n)=n:=by unfold oQ;rw[lD,JF,EK]
theorem tZ {w n:Nat} (h:(decDigits n).length<=w):(oQ w n).length=w:=by unfold oQ;rw[lD];simp[zeros];omega
theorem xC {w n:Nat} (h:(decDigits n).length<=w) (a:w<=15):dF (oQ w n)=(n,true):=by
 rw[II (Ea w n) (adH w n) (by rw[tZ h];exact a),abp]
theorem JH {l:List UInt8} (h:∀ b∈l,dK b) {c:UInt8} (a:¬ dK c):c ∉ l:=λ d=>a (h c d)
theorem XE:¬ dK 45:=by unfold dK;decide
theorem ajH:¬ dK 46:=by unfold dK;decide
theorem ajI:¬ dK 44:=by unfold dK;decide
theorem oU {c:UInt8}:∀ {l:List UInt8},c ∉ l->index l [c] = -1
 | [],_=>rfl
 | b :: r,h=>by
  rw[tY,oU (λ a=>h (aE _ a)),if_neg]
  .rfl
  .simp[av];exact λ e=>h (by rw[e];exact aD ..)
theorem qX {c:UInt8}:∀ {a:List UInt8} (b:List UInt8),c ∉ a->index (a ++ c :: b) [c]=a.length
 | [],b,_=>by rw[a4,tY,if_pos (by simp[av])];rfl
 | x :: r,b,h=>by
  rw[a3,tY,qX b (λ d=>h (aE _ d)),if_neg,if_neg (by omega)]
  .simp
  .simp[av];exact λ e=>h (by rw[e];exact aD ..)
theorem XF {c:UInt8} {l:List UInt8} (h:c ∉ l):cut l [c]=(l,[],false):=by unfold cut;rw[oU h,if_neg (by decide)]
theorem adI {c:UInt8} {a:List UInt8} (b:List UInt8) (h:c ∉ a):cut (a ++ c :: b) [c]=(a,b,true):=by
 unfold cut;rw[qX b h,if_pos (by omega)];simp[a5]
theorem Nb (a:List UInt8) (b k:Nat) (s:List UInt8) (h:index s a = -1):splitK a b k s = [s]:=by
 cases k with
 | zero=>rfl
 | succ k=>unfold splitK;simp[h]
theorem IJ {c:UInt8} {l:List UInt8} (h:c ∉ l):split l [c] = [l]:=Nb _ _ _ _ (oU h)
theorem EU {c:UInt8} {a:List UInt8} (b:List UInt8) (h:c ∉ a):split (a ++ c :: b) [c]=a :: split b [c]:=by
 have d:=qX b h;have e:(index (a ++ c :: b) [c] == -1)=false:=by rw[d,beq_eq_false_iff_ne];omega
 unfold split;rw[count_hit (by simp) d,a1,splitK];simp only[e,ay,if_false];rw[d];simp[a5,List.drop_eq_nil_of_le]
theorem EW {c:UInt8}:∀ {ps:List (List UInt8)},ps≠[]->(∀ p∈ps,c ∉ p)->split (join ps [c]) [c]=ps
 | [],h,_=>absurd rfl h
 | [p],_,h=>by rw[join_one];exact IJ (h p (aD ..))
 | p :: q :: r,_,h=>by
  have e:join (p :: q :: r) [c]=p ++ c :: join (q :: r) [c]:=by
   rw[join_cons,join_cons];simp[joinTail]
  rw[e,EU _ (h p (aD ..)),EW (by simp) (λ x a=>h x (aE _ a))]
end Go.Proofs.YtcnagconagpkcaaGreatDoor.Vtx
namespace Go.Proofs.YtcnagconagpkcaaGreatDoor
open Vtx
def iE (e:Ex):Int:=
 if e.k=1/\e.v.k=2/\e.v.n<0 then 7 else if e.k≠4 then 8 else if e.op=3 then 1 else if e.op=2 then 2 else if e.op=1 then 3 else
 if 4<=e.op/\e.op<=11 then 4 else if e.op=15\/e.op=16 then 5 else if e.op=17\/e.op=18\/e.op=19 then 6 else if e.op=20 then 7 else 8
def dN (op:Int):List UInt8:=
 if op=4 then [61] else if op=5 then [60,62] else if op=6 then [60] else if op=7 then [60,61] else if op=8 then [62] else if op=9 then [62,61] else
 if op=10 then [105,110] else if op=11 then [104,97,115] else if op=15 then [43] else if op=16 then [45] else if op=17 then [42] else if op=18 then [47] else
 if op=19 then [109,111,100] else []
def vU:List (Int × List UInt8):=[(12,[97,110,115,119,101,114,101,100]),(13,[97,115,107,101,100]),(14,[114,101,97,115,111,110]),(21,[97,98,115]),(22,[102,108,111,111,114]),
 (23,[114,111,117,110,100]),(24,[109,105,110]),(25,[109,97,120]),(26,[105,102]),(27,[101,108,115,101]),(28,[115,105,122,101]),
 (29,[99,111,100,101]),(30,[108,111,119,101,114]),(31,[106,111,105,110]),(32,[98,101,103,105,110,115]),(33,[104,111,108,100,115]),
 (34,[121,101,97,114]),(35,[109,111,110,116,104]),(36,[100,97,121]),(37,[100,97,121,115]),(38,[97,103,101]),(39,[108,97,116,101,114])]
def uY (op:Int):List UInt8:=match vU.find? (λ p=>decide (p.1=op)) with
 | some p=>p.2
 | none=>[]
def JI:List (List UInt8):=[[],[115,117,109],[99,111,117,110,116],[97,110,121],[97,108,108],[108,101,97,115,116],[109,111,115,116]]
def kW (op:Int):List UInt8:=JI.getD op.toNat []
def JJ (l:List Ex):Bool:=match l with
 | a :: _=>decide (a.k=1) && (decide (a.v.k=2) && decide (0<=a.v.n))
 | []=>false
def rW (b:Bool) (t:List UInt8):List UInt8:=if b then 40 :: (t ++ [41]) else t
mutual
noncomputable def Ex.text:Ex->List UInt8
 | .mk k op nm v ar =>
  if k=1 then showT v.k v.n v.s.data.toList v.l else if k=2 then nm.data.toList else if k=3 then [114,111,119,40] ++ nm.data.toList ++ [41] else
  if k=5 then kW op ++ [40] ++ nm.data.toList ++ [58,32] ++ (insL 0 ar).getD 0 [] ++ [41] else
  if op=3 then aq (insL 2 ar) [32,111,114,32] else if op=2 then aq (insL 3 ar) [32,97,110,100,32] else
  if op=1 then [110,111,116,32] ++ (insL 3 ar).getD 0 [] else
  if 4<=op/\op<=11 then (insL 5 ar).getD 0 [] ++ [32] ++ dN op ++ [32] ++ (insL 5 ar).getD 1 [] else
  if op=15\/op=16 then (insL 5 ar).getD 0 [] ++ [32] ++ dN op ++ [32] ++ (insL 6 ar).getD 1 [] else
  if op=17\/op=18\/op=19 then (insL 6 ar).getD 0 [] ++ [32] ++ dN op ++ [32] ++ (insL 7 ar).getD 1 [] else
  if op=20 then (if JJ ar=true then [45,40] ++ (insL 0 ar).getD 0 [] ++ [41] else [45] ++ (insL 7 ar).getD 0 []) else
  uY op ++ [40] ++ aq (insL 1 ar) [44,32] ++ [41]
noncomputable def insL (least:Int):List Ex->List (List UInt8)
 | []=>[]
 | a :: r=>rW (decide (iE a<least)) a.text :: insL least r
end
theorem text_eq (e:Ex):e.text =
  if e.k=1 then showT e.v.k e.v.n e.v.s.data.toList e.v.l else if e.k=2 then e.nm.data.toList else if e.k=3 then [114,111,119,40] ++ e.nm.data.toList ++ [41] else
  if e.k=5 then kW e.op ++ [40] ++ e.nm.data.toList ++ [58,32] ++ (insL 0 e.ar).getD 0 [] ++ [41] else
  if e.op=3 then aq (insL 2 e.ar) [32,111,114,32] else if e.op=2 then aq (insL 3 e.ar) [32,97,110,100,32] else
  if e.op=1 then [110,111,116,32] ++ (insL 3 e.ar).getD 0 [] else
  if 4<=e.op/\e.op<=11 then (insL 5 e.ar).getD 0 [] ++ [32] ++ dN e.op ++ [32] ++ (insL 5 e.ar).getD 1 [] else
  if e.op=15\/e.op=16 then (insL 5 e.ar).getD 0 [] ++ [32] ++ dN e.op ++ [32] ++ (insL 6 e.ar).getD 1 [] else
  if e.op=17\/e.op=18\/e.op=19 then (insL 6 e.ar).getD 0 [] ++ [32] ++ dN e.op ++ [32] ++ (insL 7 e.ar).getD 1 [] else
  if e.op=20 then (if JJ e.ar=true then [45,40] ++ (insL 0 e.ar).getD 0 [] ++ [41] else [45] ++ (insL 7 e.ar).getD 0 []) else
  uY e.op ++ [40] ++ aq (insL 1 e.ar) [44,32] ++ [41]:=by
 cases e;rw[Ex.text];rfl
theorem rX (b:Int):∀ ar:List Ex,insL b ar=ar.map (λ a=>rW (decide (iE a<b)) a.text)
 | []=>by simp[insL]
 | a :: r=>by rw[insL,rX b r];rfl
theorem XG (e:Ex):1<=iE e/\iE e<=8:=by
 unfold iE
 repeat' split
 all_goals omega
theorem zG (b:List UInt8):∀ r:List (List UInt8),(aL b r).length=(r.map aM).sum+b.length*r.length
 | []=>by simp[aL]
 | a :: r=>by
  have c:=zG b r;unfold aL at *;simp only[a6,List.flatten_cons,aw,a7,ao,a8] at *;omega
theorem rY (l:List (List UInt8)) (b:List UInt8):(aq l b).length<=(l.map aM).sum+b.length*l.length:=by
 cases l with
 | nil=>rw[Lib.join_nil];simp
 | cons a r =>
  rw[Lib.join_cons,aw,zG];simp only[a6,a7,ao,a8];omega
structure Tok where
 at_:Nat
 tx:List UInt8
 touch:Bool
def bJ (p:UInt8->Bool):List UInt8->Nat
 | []=>0
 | c :: r=>if p c then bJ p r+1 else 0
def dV:List UInt8->Nat
 | []=>0
 | [_]=>1
 | c :: d :: r=>if c≠39 then dV (d :: r)+1 else if d=39 then dV r+2 else 1
def nO:List UInt8->Nat
 | []=>0
 | c :: r=>if c=125 then 1 else nO r+1
def uZ (c:UInt8):Bool:=fO c || decide (c=46)
def yg (c:UInt8):Bool:=fO c || decide (c=45)
def bC (c:UInt8):Bool:=decide (c=32)
def Qc (c d:UInt8):Bool:=decide (c=60/\(d=62\/d=61)) || decide (c=62/\d=61)
def qM (c:UInt8) (r:List UInt8):Nat:=match r with
 | d :: _=>if Qc c d then 2 else 1
 | []=>1
def dA:List UInt8->Nat
 | []=>0
 | c :: r =>
  if pX c then bJ gY r+1 else if fO c then bJ uZ r+1 else if c=64 then bJ yg r+1 else if c=35 then bJ fO r+1 else
  if c=39 then dV r+1 else if c=123 then nO r+1 else qM c r
def dG (s:List UInt8) (i:Nat):Option Tok:=
 if i+bJ bC (s.drop i)<s.length then
  some ⟨i+bJ bC (s.drop i),(s.drop (i+bJ bC (s.drop i))).take (dA (s.drop (i+bJ bC (s.drop i)))),
   decide (bJ bC (s.drop i)=0) && decide (0<i) && gY (s.getD (i - 1) 0) && gY (s.getD i 0)⟩
 else none
def toks (s:List UInt8):Nat->Nat->List Tok
 | 0,_=>[]
 | f+1,i=>match dG s i with
  | none=>[]
  | some t=>t :: toks s f (t.at_+t.tx.length)
def wordsOf (s:List UInt8) (i:Nat):List Tok:=toks s (s.length+1) i
theorem qN (p:UInt8->Bool):∀ l,bJ p l<=l.length
 | []=>ap _
 | c :: r=>by
  rw[bJ,ao];have:=qN p r;split <;> omega
theorem BN:∀ l,dV l<=l.length
 | []=>ap _
 | [_]=>ap _
 | c :: d :: r=>by
  rw[dV];have a:=BN (d :: r);have b:=BN r;simp only[ao] at *;split
  .omega
  .split <;> omega
theorem EX:∀ l,nO l<=l.length
 | []=>ap _
 | c :: r=>by
  rw[nO,ao];have:=EX r;split <;> omega
theorem Qd (c:UInt8) (r:List UInt8):1<=qM c r/\qM c r<=r.length+1:=by
 cases r with
 | nil=>exact⟨ap _,ap _⟩
 | cons d r =>
  unfold qM;simp only[ao];split <;> omega
theorem EY (c:UInt8) (r:List UInt8):1<=dA (c :: r)/\dA (c :: r)<=r.length+1:=by
 rw[dA];have f:=qN gY r;have h:=qN uZ r;have a:=qN yg r;have b:=qN fO r;have d:=BN r;have g:=EX r;have e:=Qd c r
 repeat' split
 all_goals omega
theorem yI (l:List UInt8):dA l<=l.length:=by
 cases l with
 | nil=>exact ap _
 | cons c r=>exact (EY c r).2
theorem Dh (c:UInt8) (r:List UInt8):0<dA (c :: r):=(EY c r).1
theorem fP {s:List UInt8} {i:Nat} {t:Tok} (h:dG s i=some t):i<=t.at_/\t.at_<s.length/\0<t.tx.length/\t.at_+t.tx.length<=s.length/\t.at_=i+bJ bC (s.drop i)/\t.tx=(s.drop t.at_).take (dA (s.drop t.at_))/\t.tx.length=dA (s.drop t.at_):=by
 unfold dG at h;split at h
 .rename_i a;injection h with h;subst h;generalize k:i+bJ bC (s.drop i)=j at a ⊢;have d:∃ c r,s.drop j=c :: r:=by
   cases e:s.drop j with
   | nil=>have:=congrArg aM e;simp at this;omega
   | cons c r=>exact⟨c,r,rfl⟩
  obtain⟨c,r,e⟩:=d;have g:=yI (s.drop j);have l:0<dA (s.drop j):=by rw[e];exact Dh c r
  have f:(s.drop j).length=s.length - j:=List.length_drop;have b:((s.drop j).take (dA (s.drop j))).length=dA (s.drop j):=by rw[List.length_take];omega
  dsimp only;exact⟨by omega,a,by omega,by omega,rfl,rfl,b⟩
 .cases h
theorem IK (s:List UInt8):∀ (f b i:Nat),s.length<f+i->s.length<b+i->toks s f i=toks s b i
 | 0,0,_,_,_=>rfl
 | 0,b+1,i,h,_=>by
  rw[toks,toks];split
  .rfl
  .rename_i t a;have:=fP a;omega
 | f+1,0,i,_,h=>by
  rw[toks,toks];split
  .rfl
  .rename_i t a;have:=fP a;omega
 | f+1,b+1,i,h,h'=>by
  rw[toks,toks];split
  .rfl
  .rename_i t a;have:=fP a;rw[IK s f b _ (by omega) (by omega)]
theorem gZ (s:List UInt8) (i:Nat):wordsOf s i=match dG s i with
  | none=>[]
  | some t=>t :: wordsOf s (t.at_+t.tx.length):=by
 unfold wordsOf;rw[toks];split
 .rfl
 .rename_i t a;have:=fP a;rw[IK s s.length (s.length+1) _ (by omega) (by omega)]
theorem xE (s:List UInt8):∀ (f i:Nat),(toks s f i).length<=s.length - i
 | 0,_=>by simp[toks]
 | f+1,i=>by
  rw[toks];split
  .simp
  .rename_i t a;have b:=fP a;have c:=xE s f (t.at_+t.tx.length);rw[ao];omega
open Classical in
noncomputable def ve (s:List UInt8):Option Val:=if h:∃ v:Val,di v=0/\showT v.k v.n v.s.data.toList v.l=s then some h.choose else none
def Sr (out l:List UInt8):Bool:=match out.getLast?,l with
 | some a,d :: _=>(fO a || decide (a=35)) && fO d
 | _,_=>false
def qY:Nat->List UInt8->List UInt8->List UInt8
 | 0,out,_=>out
 | _+1,out,[]=>out
 | f+1,out,c :: r=>if c≠32 then qY f (out ++ [c]) r else qY f (if Sr out (r.dropWhile bC) then out ++ [32] else out) (r.dropWhile bC)
def lU (s:List UInt8):List UInt8:=qY (s.length+1) [] s
inductive NT | or | Uu | and | BP | not | sum | DL | product | jH | minus | bK | args (o:Int) | qc (o:Int)
inductive xQ | ok (es:List Ex) (l:List Tok) | err (k:Nat)
def mW (l:List Tok) (w:List UInt8):Bool:=match l with
 | t :: _=>!t.touch && decide (t.tx=w)
 | []=>false
def qf (n:Nat) (l:List Tok):Nat:=match l with
 | t :: _=>t.at_
 | []=>n
def jr:Val:=⟨0,0,⟨#[]⟩,[]⟩
def kE (o:Int) (l:List Ex):Ex:=.mk 4 o ⟨#[]⟩ jr l
def kX (v:Val):Ex:=.mk 1 0 ⟨#[]⟩ v []
def iH (k o:Int) (nm:List UInt8) (l:List Ex):Ex:=.mk k o ⟨nm.toArray⟩ jr l
def Di (o:Int) (l:List Ex):List Ex:=match l with
 | [e]=>[e]
 | l=>[kE o l]
def gJ (a b:Int) (l:List Tok):Int:=
 if mW l [] then 0 else match ([4,5,6,7,8,9,10,11,15,16,17,18,19]:List Int).find? (λ o=>decide (a<=o) && decide (o<=b) && decide (dN o≠[]) && mW l (dN o)) with
 | some o=>o
 | none=>0
def orW:List UInt8:=[111,114]
def XH:List UInt8:=[97,110,100]
def abq:List UInt8:=[110,111,116]
def yJ:List UInt8:=[114,111,119]
def JK (l:List Tok):Bool:=match l with
 | t :: u :: _=>decide (u.at_=t.at_+1) && (match u.tx with
  | c :: _=>fO c
  | []=>false)
 | _=>false
def kY (w:List UInt8):Bool:=(match w with
 | c :: _=>fO c || decide (c=64) || decide (c=35) || decide (c=39) || decide (c=123)
 | []=>false) || decide (w=qL) || decide (w=ny)
def qZ (w:List UInt8):Bool:=match w with
 | c :: _=>decide (c=123)
 | []=>false
def nameB (w:List UInt8):Bool:=(match w with
 | c :: _=>pX c
 | []=>false) && !bH.contains w
def pF (t:Tok) (r:List Tok):Bool:=match r with
 | u :: _=>decide (u.tx = [40]) && decide (u.at_=t.at_+t.tx.length)
 | []=>false
def gy (w:List UInt8):Int:=match ([1,2,3,4,5,6]:List Int).find? (λ o=>decide (kW o=w)) with
 | some o=>o
 | none=>0
def kZ (w:List UInt8):Int:=match vU.find? (λ p=>decide (p.2=w)) with
 | some p=>p.1
 | none=>0
def nameAt (l:List Tok):Option (List UInt8):=match l with
 | t :: _=>if !t.touch && nameB t.tx then some t.tx else none
 | []=>none
def xQ.bind (r:xQ) (k:List Ex->List Tok->xQ):xQ:=match r with
 | .ok es l=>k es l
 | .err p=>.err p
def dL (n:Nat) (w:List UInt8) (l:List Tok) (k:List Tok->xQ):xQ:=if mW l w then k l.tail else .err (qf n l)
noncomputable def iI (n:Nat) (p:NT->List Ex->List Tok->xQ) (nt:NT) (acc:List Ex) (l:List Tok):xQ:=match nt with
 | .or=>(p .and [] l).bind λ es l1=>p .Uu es l1
 | .Uu=>if mW l orW then (p .and [] l.tail).bind λ es l1=>p .Uu (acc ++ es) l1 else .ok (Di 3 acc) l
 | .and=>(p .not [] l).bind λ es l1=>p .BP es l1
 | .BP=>if mW l XH then (p .not [] l.tail).bind λ es l1=>p .BP (acc ++ es) l1 else .ok (Di 2 acc) l
 | .not=>if mW l abq then (p .not [] l.tail).bind λ es l1=>.ok [kE 1 es] l1 else
    (p .sum [] l).bind λ es l1=>if gJ 4 11 l1=0 then .ok es l1 else (p .sum [] l1.tail).bind λ es2 l2=>.ok [kE (gJ 4 11 l1) (es ++ es2)] l2
 | .sum=>(p .product [] l).bind λ es l1=>p .DL es l1
 | .DL=>if gJ 15 16 l=0 then .ok acc l else (p .product [] l.tail).bind λ es l1=>p .DL [kE (gJ 15 16 l) (acc ++ es)] l1
 | .product=>(p .minus [] l).bind λ es l1=>p .jH es l1
 | .jH=>if gJ 17 19 l=0 then .ok acc l else (p .minus [] l.tail).bind λ es l1=>p .jH [kE (gJ 17 19 l) (acc ++ es)] l1
 | .minus=>if mW l [45] then
    (if JK l then (match l with
     | t :: u :: r=>(match ve (45 :: u.tx) with
      | some v=>.ok [kX v] r
      | none=>.err t.at_)
     | _=>.err 0)
    else (p .minus [] l.tail).bind λ es l1=>.ok [kE 20 es] l1)
    else p .bK [] l
 | .bK=>match l with
   | []=>.err n
   | t :: r =>
    if t.touch then .err t.at_ else
    if kY t.tx then (match ve (if qZ t.tx then lU t.tx else t.tx) with
     | some v=>.ok [kX v] r
     | none=>.err t.at_) else
    if t.tx = [40] then (p .or [] r).bind λ es l1=>dL n [41] l1 λ l2=>.ok es l2 else
    if nameB t.tx=false then .err t.at_ else
    if pF t r=false then .ok [iH 2 0 t.tx []] r else
    if gy t.tx≠0 then (match nameAt r.tail with
     | none=>.err (qf n r.tail)
     | some nm=>dL n [58] r.tail.tail λ l1=>(p .or [] l1).bind λ es l2=>dL n [41] l2 λ l3=>.ok [iH 5 (gy t.tx) nm es] l3) else
    if kZ t.tx≠0 then (p (.args (kZ t.tx)) [] r.tail).bind λ es l1=>dL n [41] l1 λ l2=>.ok [kE (kZ t.tx) es] l2 else
    if t.tx=yJ then (match nameAt r.tail with
     | none=>.err (qf n r.tail)
     | some nm=>dL n [41] r.tail.tail λ l1=>.ok [iH 3 0 nm []] l1) else
    .ok [iH 2 0 t.tx []] r
 | .args o=>(p .or [] l).bind λ es l1=>p (.qc o) es l1
 | .qc o=>if acc.length<(jL o).1\/(mW l [44]=true/\acc.length<(jL o).2) then dL n [44] l λ l1=>(p .or [] l1).bind λ es l2=>p (.qc o) (acc ++ es) l2 else .ok acc l
noncomputable def P (n:Nat):Nat->NT->List Ex->List Tok->xQ
 | 0,_,_,_=>.err 0
 | f+1,nt,acc,l=>iI n (P n f) nt acc l
def gK:NT->Nat
 | .bK=>1
 | .minus=>2
 | .jH=>2
 | .product=>3
 | .DL=>3
 | .sum=>4
 | .not=>5
 | .BP=>5
 | .and=>6
 | .Uu=>6
 | .or=>7
 | .qc _=>7
 | .args _=>8
theorem fQ {r:xQ} {k:List Ex->List Tok->xQ} {m:Nat} {c:List Ex} {b:List Tok} (h:r.bind k = .ok c b) (d:∀ a l1,r = .ok a l1->l1.length<=m) (e:∀ a l1,l1.length<=m->k a l1 = .ok c b->b.length<=m):b.length<=m:=by
 cases r with
 | err p=>cases h
 | ok a l1=>exact e a l1 (d a l1 rfl) h
theorem take_len {n m:Nat} {w:List UInt8} {l:List Tok} {k:List Tok->xQ} {b:List Ex} {a:List Tok} (h:dL n w l k = .ok b a) (d:l.length<=m) (c:∀ l1,l1.length<=m->k l1 = .ok b a->a.length<=m):a.length<=m:=by
 unfold dL at h;split at h
 .exact c _ (by rw[a9];omega) h
 .cases h
theorem uf {l:List Tok} {m:Nat} (h:l.length<=m):l.tail.length<=m:=by rw[a9];omega
theorem Su (n:Nat):∀ (f:Nat) (i:NT) (e:List Ex) (l:List Tok) (j:List Ex) (g:List Tok) (m:Nat),P n f i e l = .ok j g->l.length<=m->g.length<=m
 | 0,_,_,_,_,_,_,h,_=>by cases h
 | f+1,i,e,l,j,g,m,h,hm=>by
  have b:=Su n f;have d:=uf hm;rw[P] at h;cases i <;> dsimp only[iI] at h
  case or=>exact fQ h (λ _ _ h=>b _ _ _ _ _ _ h hm) (λ _ _ a h=>b _ _ _ _ _ _ h a)
  case Uu =>
   split at h
   .exact fQ h (λ _ _ h=>b _ _ _ _ _ _ h d) (λ _ _ a h=>b _ _ _ _ _ _ h a)
   .cases h;exact hm
  case and=>exact fQ h (λ _ _ h=>b _ _ _ _ _ _ h hm) (λ _ _ a h=>b _ _ _ _ _ _ h a)
  case BP =>
   split at h
   .exact fQ h (λ _ _ h=>b _ _ _ _ _ _ h d) (λ _ _ a h=>b _ _ _ _ _ _ h a)
   .cases h;exact hm
  case not =>
   split at h
   .exact fQ h (λ _ _ h=>b _ _ _ _ _ _ h d) (λ _ _ a h=>by cases h;exact a)
   .refine fQ h (λ _ _ h=>b _ _ _ _ _ _ h hm) (λ _ _ a h=>?_);split at h
    .cases h;exact a
    .exact fQ h (λ _ _ h=>b _ _ _ _ _ _ h (uf a)) (λ _ _ a h=>by cases h;exact a)
  case sum=>exact fQ h (λ _ _ h=>b _ _ _ _ _ _ h hm) (λ _ _ a h=>b _ _ _ _ _ _ h a)
  case DL =>
   split at h
   .cases h;exact hm
   .exact fQ h (λ _ _ h=>b _ _ _ _ _ _ h d) (λ _ _ a h=>b _ _ _ _ _ _ h a)
  case product=>exact fQ h (λ _ _ h=>b _ _ _ _ _ _ h hm) (λ _ _ a h=>b _ _ _ _ _ _ h a)
  case jH =>
   split at h
   .cases h;exact hm
   .exact fQ h (λ _ _ h=>b _ _ _ _ _ _ h d) (λ _ _ a h=>b _ _ _ _ _ _ h a)
  case minus =>
   split at h
   .split at h
    .split at h
     .split at h
      .cases h;simp only[ao] at hm;omega
      .cases h
     .cases h
    .exact fQ h (λ _ _ h=>b _ _ _ _ _ _ h d) (λ _ _ a h=>by cases h;exact a)
   .exact b _ _ _ _ _ _ h hm
  case bK =>
   split at h
   .cases h
   .rename_i t r;have c:r.length<=m:=by rw[ao] at hm;omega
    split at h
    .cases h
    split at h
    .split at h
     .cases h;exact c
     .cases h
    split at h
    .exact fQ h (λ _ _ h=>b _ _ _ _ _ _ h c) (λ _ _ a h=>take_len h a (λ _ a h=>by cases h;exact a))
    split at h
    .cases h
    split at h
    .cases h;exact c
    split at h
    .split at h
     .cases h
     .exact take_len h (uf (uf c)) (λ _ a h=>fQ h (λ _ _ h=>b _ _ _ _ _ _ h a) (λ _ _ a h=>take_len h a (λ _ a h=>by cases h;exact a)))
    split at h
    .exact fQ h (λ _ _ h=>b _ _ _ _ _ _ h (uf c)) (λ _ _ a h=>take_len h a (λ _ a h=>by cases h;exact a))
    split at h
    .split at h
     .cases h
     .exact take_len h (uf (uf c)) (λ _ a h=>by cases h;exact a)
    .cases h;exact c
  case args=>exact fQ h (λ _ _ h=>b _ _ _ _ _ _ h hm) (λ _ _ a h=>b _ _ _ _ _ _ h a)
  case qc =>
   split at h
   .exact take_len h hm (λ _ a h=>fQ h (λ _ _ h=>b _ _ _ _ _ _ h a) (λ _ _ a h=>b _ _ _ _ _ _ h a))
   .cases h;exact hm
noncomputable def lV (s:List UInt8):Ex × Nat × Int:=
 if 4000<s.length then (.mk 0 0 ⟨#[]⟩ jr [],0,2) else match P s.length (12*(wordsOf s 0).length+7) .or [] (wordsOf s 0) with
  | .err k=>(.mk 0 0 ⟨#[]⟩ jr [],k,10)
  | .ok _ (t :: _)=>(.mk 0 0 ⟨#[]⟩ jr [],t.at_,10)
  | .ok es []=>if dZ (es.getD 0 (.mk 0 0 ⟨#[]⟩ jr []))≠0 then (.mk 0 0 ⟨#[]⟩ jr [],0,dZ (es.getD 0 (.mk 0 0 ⟨#[]⟩ jr []))) else (es.getD 0 (.mk 0 0 ⟨#[]⟩ jr []),0,0)
end Go.Proofs.YtcnagconagpkcaaGreatDoor
namespace Go.Proofs.YtcnagconagpkcaaGreatDoor
structure qg where
 code:Int
 ph:List ByteArray
 al:Bool
 la:Bool
structure aW where
 nm:ByteArray
 os:List qg
structure gq where
 must:Ex
 soft:Bool
 ph:List ByteArray
structure jS where
 k:Int
 lo:Int
 hi:Int
 pl:Int
 ls:ByteArray
 only:List Ex
 sh:Bool
 rs:List Int
 need:Bool
 ch:List gq
inductive ItemD
 | mk (k:Int) (nm:ByteArray) (iff:List Ex) (ph:List ByteArray) (items:List ItemD) (sh:Bool) (cnt:List Ex) (over:ByteArray) (ans:jS) (cmp:List Ex)
namespace ItemD
def k:ItemD->Int | .mk k _ _ _ _ _ _ _ _ _=>k
def nm:ItemD->ByteArray | .mk _ nm _ _ _ _ _ _ _ _=>nm
def iff:ItemD->List Ex | .mk _ _ x _ _ _ _ _ _ _=>x
def ph:ItemD->List ByteArray | .mk _ _ _ x _ _ _ _ _ _=>x
def items:ItemD->List ItemD | .mk _ _ _ _ x _ _ _ _ _=>x
def sh:ItemD->Bool | .mk _ _ _ _ _ x _ _ _ _=>x
def cnt:ItemD->List Ex | .mk _ _ _ _ _ _ x _ _ _=>x
def over:ItemD->ByteArray | .mk _ _ _ _ _ _ _ x _ _=>x
def ans:ItemD->jS | .mk _ _ _ _ _ _ _ _ x _=>x
def cmp:ItemD->List Ex | .mk _ _ _ _ _ _ _ _ _ x=>x
end ItemD
structure aG where
 nm:ByteArray
 ig:Int
 aA:List ByteArray
 lists:List aW
 items:List ItemD
structure ah where
 it:ItemD
 par:Int
 kV:Int
 dJ:Int
 lo:List ByteArray
def XI:jS:=⟨0,0,0,0,⟨#[]⟩,[],false,[],false,[]⟩
def ac2:ah:=⟨.mk 0 ⟨#[]⟩ [] [] [] false [] ⟨#[]⟩ XI [],-1,0,0,[]⟩
mutual
def ItemD.add:ItemD->List ah->Int->Int->Int->List ByteArray->List ah
 | .mk k nm iff ph items sh cnt over ans cmp,acc,par,kV,dJ,lo =>
  kR items (acc ++ [⟨.mk k nm iff ph items sh cnt over ans cmp,par,kV,dJ,lo⟩]) acc.length 0 (dJ+1) (if k=3 then lo ++ [nm] else lo)
def kR:List ItemD->List ah->Int->Int->Int->List ByteArray->List ah
 | [],acc,_,_,_,_=>acc
 | it :: r,acc,par,kV,dJ,lo=>if 300<acc.length\/13<dJ then acc else kR r (it.add acc par kV dJ lo) par (kV+1) dJ lo
end
def aC (f:aG):List ah:=kR f.items [] (-1) 0 1 []
def je (N:List ah) (n:Int):ah:=N.getD n.toNat ac2
def bG (N:List ah) (nm:ByteArray):Int:=match N.findIdx? (λ d=>decide (d.it.nm=nm)) with
 | some i=>i
 | none=>-1
def vV (N:List ah) (nm:ByteArray):Int:=if 0<=bG N nm/\(je N (bG N nm)).it.k≠4 then -1 else bG N nm
def JL (N:List ah):Nat->Int->List Int
 | 0,_=>[]
 | f+1,n=>if n<0 then [] else n :: JL N f (je N n).par
def ups (N:List ah) (n:Int):List Int:=JL N (n.toNat+1) n
def zH (N:List ah) (n:Int):List Int:=(ups N n).reverse
def ug (N:List ah):List Int->List Int->Bool
 | x :: xs,y :: ys=>if x=y then ug N xs ys else decide ((je N x).par<0) || decide ((je N (je N x).par).it.k≠2) || !(je N (je N x).par).it.sh
 | _,_=>true
def jo (N:List ah) (a n:Int):Bool:=decide (a<n) && ug N (zH N a) (zH N n)
def zI (N:List ah) (a n:Int):Bool:=(ups N (je N n).par).any (λ x=>decide (x=a))
def uh (N:List ah) (n:Int):Bool:=(ups N (je N n).par).any (λ x=>decide ((je N x).it.k=1))
def EZ (d:ah):Bool:=decide (d.it.k=4) || decide (d.it.k=5)
abbrev aV:=List (ByteArray × Int)
def Sv (K:aV) (nm:ByteArray):Int:=match K.find? (λ p=>decide (p.1=nm)) with
 | some p=>p.2
 | none=>0
def Sz (K:aV) (d:ah):Int:=if d.it.k=4 then d.it.ans.k else Sv K d.it.nm
def vg (K:aV) (d:ah):aY:=⟨d.it.nm,Sz K d,d.lo⟩
def qi (N:List ah) (K:aV) (keep:Nat->Bool) (k:Nat):List aY:=((List.range k).filter (λ (i:Nat)=>EZ (je N (i:Nat)) && keep i)).map (λ i=>vg K (je N (i:Nat)))
def kF (N:List ah):List bP:=(N.filter (λ d=>decide (d.it.k=3))).map (λ d=>⟨d.it.nm,d.lo⟩)
def eX (L:List aW) (nm:ByteArray):Option aW:=L.find? (λ l=>decide (l.nm=nm))
mutual
def Ex.pre:Ex->List Ex
 | .mk k op nm v ar=>.mk k op nm v ar :: BQ ar
def BQ:List Ex->List Ex
 | []=>[]
 | a :: r=>a.pre ++ BQ r
end
def Dj (N:List ah) (n:Int) (more:List aY) (s:Int × Int) (x:Ex):Int × Int:=
 if x.k=2 then (if more.any (λ m=>decide (m.nm=x.nm)) then s else if bG N x.nm<0\/EZ (je N (bG N x.nm))=false then (5,s.2) else if jo N (bG N x.nm) n=false then (s.1,14) else s)
 else if x.k=3\/x.k=5 then (if bG N x.nm<0\/(je N (bG N x.nm)).it.k≠3 then (5,s.2) else if x.k=5/\(jo N (bG N x.nm) n=false\/zI N (bG N x.nm) n=true) then (s.1,14) else s)
 else s
def E5 (N:List ah) (e:Ex) (n:Int) (more:List aY):Int:=
 if (e.pre.foldl (Dj N n more) (0,0)).1≠0 then (e.pre.foldl (Dj N n more) (0,0)).1 else (e.pre.foldl (Dj N n more) (0,0)).2
def ac3 (e:Ex) (cells:List aY) (loops:List bP) (at_:List ByteArray):Int × Int:=
 if dZ e≠0 then (0,dZ e) else if gG cells loops≠0 then (0,gG cells loops) else if jW loops at_=false then (0,9) else e.kind cells loops at_
noncomputable def XJ (e:Ex):Int:=if dZ e≠0 then dZ e else if 4000<e.text.length then 2 else 0
def E8 (N:List ah) (K:aV) (n:Int):List aY:=qi N K (λ i=>jo N i n) N.length
noncomputable def bU (N:List ah) (K:aV) (n:Int) (more:List aY) (e:Ex):Int × Int:=
 if XJ e≠0 then (0,XJ e) else if E5 N e n more≠0 then (0,E5 N e n more) else ac3 e (E8 N K n ++ more) (kF N) (je N n).lo
def eG (F:Ex->Int × Int) (k:Int):List Ex->Int
 | []=>0
 | e :: r=>if (F e).2≠0 then (F e).2 else if (F e).1≠k then 8 else eG F k r
def cZ (N:List ah) (K:aV) (n:Int):List aY:=if 0<=n/\(je N n).it.k=4 then [vg K (je N n)] else []
def qj:List UInt8->Bool->Nat->Option Nat
 | [],_,_=>none
 | c :: r,q,k=>if c=39 then qj r (!q) (k+1) else if q then qj r q (k+1) else if c=125 then some k else if c=123 then none else qj r q (k+1)
noncomputable def rf:Nat->List UInt8->Option (List Ex)
 | 0,_=>some []
 | _+1,[]=>some []
 | f+1,c :: r=>if c≠123/\c≠125 then rf f r else if r.head?=some c then rf f (r.drop 1) else if c=125 then none else
  match qj r false 0 with
  | none=>none
  | some k=>if (lV (r.take k)).2.2≠0 then none else (rf f (r.drop (k+1))).map ((lV (r.take k)).1 :: ·)
noncomputable def vW (s:ByteArray):Option (List Ex):=rf (s.size+1) s.data.toList
def rq (F:Ex->Int × Int) (pipes:Bool):List Ex->Int
 | []=>0
 | e :: r=>if pipes=false then 10 else if (F e).2≠0 then (F e).2 else rq F pipes r
noncomputable def Nc (F:Ex->Int × Int) (pipes:Bool):List ByteArray->Int
 | []=>0
 | s :: r=>if 300<s.size then 2 else if s.data.toList.any (λ c=>bu c.toNat 32 126) then 1 else
  match vW s with
  | none=>10
  | some es=>if rq F pipes es≠0 then rq F pipes es else Nc F pipes r
noncomputable def rZ (F:Ex->Int × Int) (nl:Nat) (pipes:Bool) (p:List ByteArray):Int:=if 0<p.length/\p.length≠nl then 3 else Nc F pipes p
def BU:List ByteArray->List ByteArray->Int
 | _,[]=>0
 | prev,l :: r=>if bz l.data.toList=false then 5 else if prev.any (λ p=>decide (p=l)) then 6 else BU (prev ++ [l]) r
def ql (f:aG):Int:=if bz f.nm.data.toList=false then 5 else if bu f.ig 1 9999=true then 1 else if bu f.aA.length 1 6=true then 2 else BU [] f.aA
noncomputable def vX (nl:Nat):List qg->List qg->Int
 | _,[]=>0
 | prev,o :: r=>if bu o.code 1 999=true then 1 else if prev.any (λ p=>decide (p.code=o.code)) then 6 else
  if rZ (λ _=>(0,0)) nl false o.ph≠0 then rZ (λ _=>(0,0)) nl false o.ph else vX nl (prev ++ [o]) r
noncomputable def vY (nl:Nat):List aW->List aW->Int
 | _,[]=>0
 | prev,l :: r=>if bz l.nm.data.toList=false then 5 else if prev.any (λ p=>decide (p.nm=l.nm)) then 6 else if bu l.os.length 1 40=true then 2 else
  if vX nl [] l.os≠0 then vX nl [] l.os else vY nl (prev ++ [l]) r
noncomputable def kG (f:aG):Int:=if 60<f.lists.length then 2 else vY f.aA.length [] f.lists
def yh (N:List ah):Int:=if 300<N.length then 2 else if N.any (λ d=>decide (12<d.dJ) || decide (3<d.lo.length)) then 2 else 0
def Dk (a:jS):Bool:=decide (a.k=0) && decide (a.lo=0) && decide (a.hi=0) && decide (a.pl=0) && decide (a.ls=⟨#[]⟩) && decide (a.only.length=0) && !a.sh && decide (a.rs.length=0) && !a.need && decide (a.ch.length=0)
def vZ (x:ItemD):Bool:=
 let spoken:=decide (x.k=1) || decide (x.k=4) || decide (x.k=6);let holds:=decide (x.k=1) || decide (x.k=2) || decide (x.k=3)
 (!spoken && decide (0<x.ph.length)) || (!holds && decide (0<x.items.length)) || (decide (x.k≠2) && x.sh) ||
 (decide (x.k≠3) && (decide (0<x.cnt.length) || decide (x.over≠⟨#[]⟩))) || (decide (x.k=3) && (decide (0<x.cnt.length) == decide (x.over≠⟨#[]⟩))) ||
 (decide (x.k≠4) && !Dk x.ans) || (decide (x.k=5) && decide (x.cmp.length≠1)) || (decide (x.k≠5) && decide (0<x.cmp.length)) ||
 decide (1<x.iff.length) || decide (1<x.cnt.length)
def Hu (k:Int):Int × Int:=if k=2 then (-999999999999999,999999999999999) else if k=6 then (-25567,84005) else if k=3 then (0,200) else if k=5 then (0,40) else (0,0)
def SA (a:jS):Bool:=
 let chosen:=decide (a.k=4) || decide (a.k=5)
 (decide (a.pl=0) || decide (a.k=2)) && (chosen || (decide (a.ls=⟨#[]⟩) && decide (a.only.length=0) && !a.sh)) && (decide (a.k≠4) || (decide (a.lo=0) && decide (a.hi=0))) && decide (a.only.length<=1)
def Dl:Option Int->List Int->Int
 | _,[]=>0
 | prev,r :: l=>if (match prev with | some p=>decide (r<=p) | none=>false) then 7 else if bu r 1 3=true then 1 else Dl (some r) l
def Nh (L:List aW) (a:jS):Int:=
 if bu a.k 2 6=true then 4 else if SA a=false then 3 else if a.hi<a.lo\/bu a.lo (Hu a.k).1 (Hu a.k).2=true\/bu a.hi (Hu a.k).1 (Hu a.k).2=true then 1 else
 if bu a.pl 0 4=true then 1 else if (eX L a.ls).isNone=true/\(a.k=4\/a.k=5) then 5 else if Dl none a.rs≠0 then Dl none a.rs else if 6<a.ch.length then 2 else 0
def vw:ByteArray:=⟨#[111,112,116,105,111,110]⟩
def oV (N:List ah) (L:List aW) (n:Nat):Int:=
 let x:=(je N n).it;let page:=uh N n
 if bu x.k 1 6=true then 4 else if bz x.nm.data.toList=false\/x.nm=vw then 5 else if (N.take n).any (λ d=>decide (d.it.nm=x.nm)) then 6 else if vZ x=true then 3 else
 if (page=true/\(x.k=1\/x.k=6))\/(page=false/\x.k=4) then 7 else if x.k=4 then Nh L x.ans else 0
def wu (N:List ah) (L:List aW):Nat->Nat->Int
 | 0,_=>0
 | f+1,n=>if n<N.length then (if oV N L n≠0 then oV N L n else wu N L f (n+1)) else 0
def jh (N:List ah) (L:List aW):Int:=if yh N≠0 then yh N else wu N L (N.length+1) 0
def SB (N:List ah) (L:List aW) (n:Int):Int:=
 let x:=(je N n).it
 if x.over=⟨#[]⟩ then 0 else
 let q:=vV N x.over
 if q<0 then 5 else if jo N q n=false then 14 else if (je N q).it.ans.k≠5 then 8 else
 if (je N n).lo.length<(je N q).lo.length\/(je N q).lo≠(je N n).lo.take (je N q).lo.length then 5 else
 if 20<(match eX L (je N q).it.ans.ls with | some l=>l.os.length | none=>0) then 2 else 0
noncomputable def IL (N:List ah) (L:List aW) (K:aV) (n:Int):Int:=
 if eG (bU N K n []) 2 (je N n).it.cnt≠0 then eG (bU N K n []) 2 (je N n).it.cnt else SB N L n
noncomputable def ui (N:List ah) (K:aV) (nl:Nat) (n:Int):List gq->Int
 | []=>0
 | r :: l=>if eG (bU N K n (cZ N K n)) 7 [r.must]≠0 then eG (bU N K n (cZ N K n)) 7 [r.must] else
  if rZ (bU N K n (cZ N K n)) nl true r.ph≠0 then rZ (bU N K n (cZ N K n)) nl true r.ph else ui N K nl n l
noncomputable def BV (N:List ah) (K:aV) (nl:Nat) (n:Int):Int:=
 if eG (bU N K n [⟨vw,4,[]⟩]) 7 (je N n).it.ans.only≠0 then eG (bU N K n [⟨vw,4,[]⟩]) 7 (je N n).it.ans.only else ui N K nl n (je N n).it.ans.ch
noncomputable def vz (N:List ah) (L:List aW) (K:aV) (nl:Nat) (n:Int):Int × aV:=
 let x:=(je N n).it
 if eG (bU N K n []) 7 x.iff≠0 then (eG (bU N K n []) 7 x.iff,K) else
 if rZ (bU N K n (cZ N K n)) nl true x.ph≠0 then (rZ (bU N K n (cZ N K n)) nl true x.ph,K) else
 if x.k=3 then (IL N L K n,K) else if x.k=4 then (BV N K nl n,K) else
 if x.k=5 then (match x.cmp with
  | []=>(0,K)
  | e :: _=>((bU N K n [] e).2,(x.nm,(bU N K n [] e).1) :: K)) else (0,K)
noncomputable def yj (N:List ah) (L:List aW) (nl:Nat):Nat->Nat->aV->Int × aV
 | 0,_,K=>(0,K)
 | f+1,n,K=>if n<N.length then (if (vz N L K nl n).1≠0 then vz N L K nl n else yj N L nl f (n+1) (vz N L K nl n).2) else (0,K)
noncomputable def o9 (f:aG):Int × aV:=
 if ql f≠0 then (ql f,[]) else if kG f≠0 then (kG f,[]) else if jh (aC f) f.lists≠0 then (jh (aC f) f.lists,[]) else
 yj (aC f) f.lists f.aA.length ((aC f).length+1) 0 []
noncomputable def dh (f:aG):Int:=(o9 f).1
end Go.Proofs.YtcnagconagpkcaaGreatDoor
namespace Go.Proofs.YtcnagconagpkcaaGreatDoor
open Go.RowKit
def nP (w:World) (B:Nat) (A:Option Addr) (c:Nat) (l:List ByteArray):Prop:=dB w B A l/\l.length<=c/\l.length<=maxLen/\∀ s∈l,s.size<=maxLen
def agp (o:qg) (A:Option Addr) (c:Nat):List Value:=[aa ab o.code,ae A o.ph.length c,am o.al,am o.la]
def nH (w:World) (B:Nat) (o:qg) (cs:List Value):Prop:=∃ A c,cs=agp o A c/\nP w B A c o.ph
def Hw (l:aW) (A:Option Addr) (c:Nat):List Value:=[ac l.nm,ae A l.os.length c]
def dW (w:World) (B:Nat) (l:aW) (cs:List Value):Prop:=∃ A c,cs=Hw l A c/\au nH 4 w B A l.os/\l.os.length<=c/\l.nm.size<=maxLen
def iO (w:World) (B:Nat) (r:gq) (cs:List Value):Prop:=∃ es A c,cs=es ++ [am r.soft,ae A r.ph.length c]/\aQ w B r.must es/\nP w B A c r.ph
def Nj (a:jS) (A1:Option Addr) (c1:Nat) (A2:Option Addr) (c2:Nat) (A3:Option Addr) (c3:Nat):List Value:=
 [aa ab a.k,aa ab a.lo,aa ab a.hi,aa ab a.pl,ac a.ls,ae A1 a.only.length c1,am a.sh,ae A2 a.rs.length c2,am a.need,ae A3 a.ch.length c3]
abbrev Bd (a:jS) (A1:Option Addr) (c1:Nat) (A2:Option Addr) (c2:Nat) (A3:Option Addr) (c3:Nat):Array Value:=#[aa ab a.k,aa ab a.lo,aa ab a.hi,aa ab a.pl,ac a.ls,ae A1 a.only.length c1,am a.sh,ae A2 a.rs.length c2,am a.need,ae A3 a.ch.length c3]
structure nI (w:World) (B:Nat) (a:jS) (A1:Option Addr) (c1:Nat) (A2:Option Addr) (c2:Nat) (A3:Option Addr) (c3:Nat):Prop where
 h1:au aQ 8 w B A1 a.only
 h2:Reads w B 1 A2 a.rs.length (bF ab a.rs)
 h3:au iO 10 w B A3 a.ch
 l1:a.only.length<=c1
 l2:a.rs.length<=c2
 l3:a.ch.length<=c3
 l4:a.rs.length<=maxLen
 l5:a.ls.size<=maxLen
def itC (x:ItemD) (A1:Option Addr) (c1:Nat) (A2:Option Addr) (c2:Nat) (A3:Option Addr) (c3:Nat) (A4:Option Addr) (c4:Nat) (A5:Option Addr) (c5:Nat) (an:List Value):List Value:=
 [aa ab x.k,ac x.nm,ae A1 x.iff.length c1,ae A2 x.ph.length c2,ae A3 x.items.length c3,am x.sh,ae A4 x.cnt.length c4,ac x.over] ++ an ++ [ae A5 x.cmp.length c5]
abbrev Bg (x:ItemD) (A1:Option Addr) (c1:Nat) (A2:Option Addr) (c2:Nat) (A3:Option Addr) (c3:Nat) (A4:Option Addr) (c4:Nat) (B1:Option Addr) (b1:Nat) (B2:Option Addr) (b2:Nat) (B3:Option Addr) (b3:Nat) (A5:Option Addr) (c5:Nat):Array Value:=#[aa ab x.k,ac x.nm,ae A1 x.iff.length c1,ae A2 x.ph.length c2,ae A3 x.items.length c3,am x.sh,ae A4 x.cnt.length c4,ac x.over,aa ab x.ans.k,aa ab x.ans.lo,aa ab x.ans.hi,aa ab x.ans.pl,ac x.ans.ls,ae B1 x.ans.only.length b1,am x.ans.sh,ae B2 x.ans.rs.length b2,am x.ans.need,ae B3 x.ans.ch.length b3,ae A5 x.cmp.length c5]
inductive bW (w:World) (B:Nat):ItemD->List Value->Prop
 | mk {x:ItemD} {A1:Option Addr} {c1:Nat} {A2:Option Addr} {c2:Nat} {A3:Option Addr} {c3:Nat} {A4:Option Addr} {c4:Nat} {A5:Option Addr} {c5:Nat} {B1:Option Addr} {b1:Nat} {B2:Option Addr} {b2:Nat} {B3:Option Addr} {b3:Nat} {cs:List Value}
   (h1:au aQ 8 w B A1 x.iff) (h2:nP w B A2 c2 x.ph) (h4:au aQ 8 w B A4 x.cnt) (h5:au aQ 8 w B A5 x.cmp) (ha:nI w B x.ans B1 b1 B2 b2 B3 b3)
   (l1:x.iff.length<=c1) (l3:x.items.length<=c3) (l4:x.cnt.length<=c4) (l5:x.cmp.length<=c5) (l6:x.nm.size<=maxLen) (l7:x.over.size<=maxLen) (l8:x.items.length<=maxLen)
   (hr:Reads w B 19 A3 x.items.length cs) (hi:∀ i (h:i<x.items.length),bW w B x.items[i] ((cs.drop (i*19)).take 19)) :
   bW w B x (itC x A1 c1 A2 c2 A3 c3 A4 c4 A5 c5 (Nj x.ans B1 b1 B2 b2 B3 b3))
abbrev zJ:=au bW 19
def BZ (w:World) (B:Nat) (d:ah) (cs:List Value):Prop:=∃ lW A c,cs=lW ++ [aa ab d.par,aa ab d.kV,aa ab d.dJ,ae A d.lo.length c]/\bW w B d.it lW/\nP w B A c d.lo
section
variable {w w':World} {B B':Nat}
theorem nP.keep {A:Option Addr} {c:Nat} {l:List ByteArray} (h:nP w B A c l) (a:Below B w w'):nP w' B A c l:=⟨h.1.below a,h.2⟩
theorem nP.up {A:Option Addr} {c:Nat} {l:List ByteArray} (h:nP w B A c l) (a:B<=B'):nP w B' A c l:=⟨h.1.more a,h.2⟩
theorem au.Qe {α:Type} {P:World->Nat->α->List Value->Prop} {size:Nat} {A:Option Addr} {l:List α} (b:∀ d cs,P w B d cs->P w B' d cs) (h:au P size w B A l) (g:B<=B'):au P size w B' A l:=by
 obtain⟨e,cs,f,c⟩:=h;exact⟨e,cs,f.more g,λ i a=>b _ _ (c i a)⟩
theorem nH.keep {o:qg} {cs:List Value} (h:nH w B o cs) (b:Below B w w'):nH w' B o cs:=by obtain⟨A,c,e,a⟩:=h;exact⟨A,c,e,a.keep b⟩
theorem nH.up {o:qg} {cs:List Value} (h:nH w B o cs) (a:B<=B'):nH w B' o cs:=by obtain⟨A,c,e,b⟩:=h;exact⟨A,c,e,b.up a⟩
theorem dW.keep {l:aW} {cs:List Value} (h:dW w B l cs) (a:Below B w w'):dW w' B l cs:=by
 obtain⟨A,c,e,b,d⟩:=h;exact⟨A,c,e,b.keep (λ _ _ h=>h.keep a) a,d⟩
theorem dW.up {l:aW} {cs:List Value} (h:dW w B l cs) (a:B<=B'):dW w B' l cs:=by
 obtain⟨A,c,e,b,d⟩:=h;exact⟨A,c,e,b.Qe (λ _ _ h=>h.up a) a,d⟩
theorem iO.keep {r:gq} {cs:List Value} (h:iO w B r cs) (a:Below B w w'):iO w' B r cs:=by
 obtain⟨d,A,c,e,b,f⟩:=h;exact⟨d,A,c,e,b.keep a,f.keep a⟩
theorem iO.up {r:gq} {cs:List Value} (h:iO w B r cs) (a:B<=B'):iO w B' r cs:=by
 obtain⟨d,A,c,e,b,f⟩:=h;exact⟨d,A,c,e,b.up a,f.up a⟩
theorem nI.keep {a:jS} {c d g:Option Addr} {e f c3:Nat} (h:nI w B a c e d f g c3) (b:Below B w w'):nI w' B a c e d f g c3:=
 ⟨h.h1.keep (λ _ _ h=>h.keep b) b,h.h2.below b,h.h3.keep (λ _ _ h=>h.keep b) b,h.l1,h.l2,h.l3,h.l4,h.l5⟩
theorem nI.up {a:jS} {c d g:Option Addr} {e f c3:Nat} (h:nI w B a c e d f g c3) (b:B<=B'):nI w B' a c e d f g c3:=
 ⟨h.h1.Qe (λ _ _ h=>h.up b) b,h.h2.more b,h.h3.Qe (λ _ _ h=>h.up b) b,h.l1,h.l2,h.l3,h.l4,h.l5⟩
theorem bW.keep {x:ItemD} {cs:List Value} (h:bW w B x cs) (a:Below B w w'):bW w' B x cs:=by
 induction h with
 | mk h1 h2 h4 h5 ha l1 l3 l4 l5 l6 l7 l8 hr hi ih =>
  exact .mk (h1.keep (λ _ _ h=>h.keep a) a) (h2.keep a) (h4.keep (λ _ _ h=>h.keep a) a) (h5.keep (λ _ _ h=>h.keep a) a) (ha.keep a) l1 l3 l4 l5 l6 l7 l8 (hr.below a) ih
theorem bW.up {x:ItemD} {cs:List Value} (h:bW w B x cs) (a:B<=B'):bW w B' x cs:=by
 induction h with
 | mk h1 h2 h4 h5 ha l1 l3 l4 l5 l6 l7 l8 hr hi ih =>
  exact .mk (h1.Qe (λ _ _ h=>h.up a) a) (h2.up a) (h4.Qe (λ _ _ h=>h.up a) a) (h5.Qe (λ _ _ h=>h.up a) a) (ha.up a) l1 l3 l4 l5 l6 l7 l8 (hr.more a) ih
theorem BZ.keep {d:ah} {cs:List Value} (h:BZ w B d cs) (a:Below B w w'):BZ w' B d cs:=by
 obtain⟨f,A,c,e,b,g⟩:=h;exact⟨f,A,c,e,b.keep a,g.keep a⟩
theorem BZ.up {d:ah} {cs:List Value} (h:BZ w B d cs) (a:B<=B'):BZ w B' d cs:=by
 obtain⟨f,A,c,e,b,g⟩:=h;exact⟨f,A,c,e,b.up a,g.up a⟩
end
end Go.Proofs.YtcnagconagpkcaaGreatDoor
namespace Go.Proofs.YtcnagconagpkcaaGreatDoor
def eH (N:List ah):Prop:=∀ i (h:i<N.length),-1<=N[i].par/\N[i].par<i
theorem eH.snoc {N:List ah} (h:eH N) {d:ah} (b : -1<=d.par) (c:d.par<N.length):eH (N ++ [d]):=by
 intro i a;rw[aw] at a;by_cases hl:i<N.length
 .rw[List.getElem_append_left hl];exact h i hl
 .have:i=N.length:=by simp at a;omega
  subst this;simp[b,c]
mutual
theorem ItemD.adJ:∀ (f:ItemD) (a:List ah) (b e d:Int) (c:List ByteArray),eH a -> -1<=b->b<a.length->eH (f.add a b e d c)/\a.length<=(f.add a b e d c).length
 | .mk k nm iff ph items sh cnt over ans cmp,a,b,e,d,c,h,h1,h2=>by
  rw[ItemD.add];have:=JM items (a ++ [⟨.mk k nm iff ph items sh cnt over ans cmp,b,e,d,c⟩]) a.length 0 (d+1) (if k=3 then c ++ [nm] else c) (h.snoc h1 h2) (by omega) (by simp;omega);rw[aw] at this;exact⟨this.1,by have:=this.2;omega⟩
theorem JM:∀ (l:List ItemD) (c:List ah) (d f g:Int) (e:List ByteArray),eH c -> -1<=d->d<c.length->eH (kR l c d f g e)/\c.length<=(kR l c d f g e).length
 | [],c,_,_,_,_,h,_,_=>by rw[kR];exact⟨h,ap _⟩
 | it :: r,c,d,f,g,e,h,h1,h2=>by
  rw[kR];split
  .exact⟨h,ap _⟩
  .obtain⟨a,b⟩:=ItemD.adJ it c d f g e h h1 h2;obtain⟨i,j⟩:=JM r (it.add c d f g e) d (f+1) g e a h1 (by omega);exact⟨i,by omega⟩
end
theorem zK (f:aG):eH (aC f):=(JM f.items [] (-1) 0 1 [] (λ i h=>by simp at h) (by omega) (by simp)).1
theorem iY {N:List ah} {i:Nat} (h:i<N.length):je N (i:Int)=N[i]:=by simp[je,List.getD,h]
theorem qm {N:List ah} {n:Int} (h:n<0):∀ f,JL N f n = []
 | 0=>rfl
 | f+1=>by rw[JL,if_pos h]
theorem Cb {N:List ah} (a:eH N):∀ (f:Nat) (n:Int),n<N.length->n.toNat+1<=f->JL N f n=JL N (n.toNat+1) n
 | 0,n,_,h=>by omega
 | f+1,n,hn,h=>by
  by_cases h0:n<0
  .rw[qm h0,qm h0]
  .rw[JL,JL,if_neg h0,if_neg h0];obtain⟨i,rfl⟩:∃ i:Nat,n=i:=⟨n.toNat,by omega⟩;have b:i<N.length:=by omega
   obtain⟨d,c⟩:=a i b;rw[iY b];congr 1;by_cases h3:N[i].par<0
   .rw[qm h3,qm h3]
   .rw[Cb a f _ (by omega) (by omega),Cb a ((i:Int)).toNat _ (by omega) (by omega)]
theorem uj {N:List ah} {n:Int} (h:n<0):ups N n = []:=qm h _
theorem wB {N:List ah} (a:eH N) {i:Nat} (b:i<N.length):ups N i=(i:Int) :: ups N N[i].par:=by
 obtain⟨d,c⟩:=a i b;unfold ups;rw[JL,if_neg (by omega),iY b];congr 1;by_cases h3:N[i].par<0
 .rw[qm h3,qm h3]
 .rw[Cb a ((i:Int)).toNat _ (by omega) (by omega)]
end Go.Proofs.YtcnagconagpkcaaGreatDoor
namespace Go.Proofs.YtcnagconagpkcaaGreatDoor
open Go.RowKit
def Fa (w:World) (B0 m:Nat) (d:ah) (cs:List Value):Prop:=∃ lW A c,cs=lW ++ [aa ab d.par,aa ab d.kV,aa ab d.dJ,ae A d.lo.length c]/\bW w B0 d.it lW/\nP w w.heap.size A c d.lo/\d.lo.length<=1000/\∀ ad,A=some ad->ad.block≠m
def uk (w:World) (B0 m:Nat) (A:Option Addr) (N:List ah):Prop:=
 N.length<=301/\(∀ ad,A=some ad->ad.block≠m)/\∃ cs,Reads w w.heap.size 23 A N.length cs/\∀ i (h:i<N.length),Fa w B0 m N[i] ((cs.drop (i*23)).take 23)
structure ku where
 AL:Option Addr
 cl:Nat
 AS:Option Addr
 cs:Nat
 AI:Option Addr
 ci:Nat
 AN:Option Addr
 cn:Nat
abbrev BO (f:aG) (x:ku):Array Value:=#[ac f.nm,aa ab f.ig,ae x.AL f.aA.length x.cl,ae x.AS f.lists.length x.cs,ae x.AI f.items.length x.ci]
abbrev bkC (f:aG) (N:List ah) (m1 m2 m3:Nat) (x:ku):Array Value:=
 #[ac f.nm,aa ab f.ig,ae x.AL f.aA.length x.cl,ae x.AS f.lists.length x.cs,ae x.AI f.items.length x.ci,ae x.AN N.length x.cn,.map (some m1),.map (some m2),.map (some m3)]
structure gQ (w:World) (B0:Nat) (f:aG) (x:ku):Prop where
 nm:f.nm.size<=maxLen
 la:nP w B0 x.AL x.cl f.aA
 ls:au dW 2 w B0 x.AS f.lists
 li:f.lists.length<=x.cs
 it:zJ w B0 x.AI f.items
 ii:f.items.length<=x.ci
def Qg (kv:List (ByteArray × Value)) (N:List ah):Prop:=∀ s,gz kv s=if bG N s<0 then none else some (aa ab (bG N s))
def Fb (w:World) (B0:Nat) (kv:List (ByteArray × Value)) (L:List aW):Prop:=∀ s,match eX L s with
 | none=>gz kv s=none
 | some l=>∃ A c,gz kv s=some (.agg (Hw l A c).toArray)/\dW w B0 l (Hw l A c)
def abr (kv:List (ByteArray × Value)) (K:aV):Prop:=∀ s,gz kv s=(K.find? (λ p=>decide (p.1=s))).map (λ p=>.int ab p.2)
structure aJ (w:World) (B0 gb m1 m2 m3:Nat) (x:ku) (f:aG) (N:List ah) (K:aV):Prop where
 blk:ag w gb 115 (bkC f N m1 m2 m3 x)
 form:gQ w B0 f x
 nodes:uk w B0 m3 x.AN N
 cap:N.length<=x.cn
 Qh:∃ kv,aS w m1 kv/\Qg kv N
 ls:∃ kv,aS w m2 kv/\Fb w B0 kv f.lists
 kd:∃ kv,aS w m3 kv/\abr kv K
 ne:B0<=m1/\B0<=m2/\B0<=m3/\B0<=gb/\m1≠m3/\m2≠m3/\gb≠m3
 le:B0<=w.heap.size
section
variable {w w':World} {B0 m:Nat}
theorem Fa.keep {d:ah} {cs:List Value} (h:Fa w B0 m d cs) (a:EG w w') (f:B0<=w.heap.size):Fa w' B0 m d cs:=by
 obtain⟨i,A,c,e,g,j,b⟩:=h;exact⟨i,A,c,e,g.keep (a.mono f),(j.keep a).up a.size,b⟩
theorem uk.keep {A:Option Addr} {N:List ah} (h:uk w B0 m A N) (a:EG w w') (c:B0<=w.heap.size):uk w' B0 m A N:=by
 obtain⟨e,d,cs,g,b⟩:=h;exact⟨e,d,cs,(g.below a).more a.size,λ i f=>(b i f).keep a c⟩
theorem gQ.keep {f:aG} {x:ku} (h:gQ w B0 f x) (a:Below B0 w w'):gQ w' B0 f x:=
 ⟨h.nm,h.la.keep a,h.ls.keep (λ _ _ h=>h.keep a) a,h.li,h.it.keep (λ _ _ h=>h.keep a) a,h.ii⟩
theorem Fb.keep {a:List (ByteArray × Value)} {L:List aW} (h:Fb w B0 a L) (d:Below B0 w w'):Fb w' B0 a L:=by
 intro s;have:=h s;split at this
 .exact this
 .obtain⟨A,c,b,e⟩:=this;exact⟨A,c,b,e.keep d⟩
theorem aJ.keep {e j c d:Nat} {x:ku} {f:aG} {N:List ah} {K:aV} (h:aJ w B0 e j c d x f N K) (a:EG w w'):aJ w' B0 e j c d x f N K:=by
 obtain⟨m,k,b1⟩:=h.Qh;obtain⟨l,i,b2⟩:=h.ls;obtain⟨n,g,b3⟩:=h.kd;have b:=a.mono h.le;exact⟨h.blk.below a h.blk.lt,h.form.keep b,h.nodes.keep a h.le,h.cap,⟨m,k.below a k.lt,b1⟩,⟨l,i.below a i.lt,b2.keep b⟩,⟨n,g.below a g.lt,b3⟩,h.ne,Nat.le_trans h.le a.size⟩
theorem uk.at_ {A:Option Addr} {N:List ah} (h:uk w B0 m A N) {i:Nat} (d:i<N.length) :
  ∃ ad cs,A=some ad/\ad.block<w.heap.size/\Fa w B0 m N[i] cs/\∀ j u,cs[j]?=some u->w.cell? ((ad.add (i*23)).add j)=some u:=by
 obtain⟨-,-,cs,e,b⟩:=h;obtain⟨ad,rfl,f,c⟩:=e.2 (by omega);refine⟨ad,_,rfl,f,b i d,λ j u a=>?_⟩;rw[kC];refine c _ u ?_;rw[aR] at a;split at a
 .rw[List.getElem?_drop] at a;exact a
 .cases a
end
end Go.Proofs.YtcnagconagpkcaaGreatDoor
namespace Go.Proofs.YtcnagconagpkcaaGreatDoor
open Go.RowKit
attribute [local go_sem ↓] Go.wp_at_zero Go.wp_at_succ
set_option maxHeartbeats 4000000
set_option maxRecDepth 100000
theorem kH (a b c:Int) (w:World) :
  He 30 #[aa ab a,aa ab b,aa ab c] w (am (bu a b c)):=by
 by_cases h1:a<b
 .have d:=qh (pR (.inl h1):bu a b c=true);go_enter Tryz.func30,Tryz.ntmps30;go_wp2;go_ret;exact⟨aj (by rw[d.o]),rfl⟩
 by_cases h2:c<a
 .have d:=qh (pR (.inr h2):bu a b c=true);go_enter Tryz.func30,Tryz.ntmps30;go_wp2;go_ret;exact⟨aj (by rw[d.o]),rfl⟩
 .have d:=qh (pW (by omega) (by omega):bu a b c=false);go_enter Tryz.func30,Tryz.ntmps30;go_wp2;go_ret;exact⟨aj (by rw[d.o]),rfl⟩
theorem XK (w:World):(zeroValue 3).run Tryz.prog w = .ok (aa ab 0) w:=by kernel_rfl
theorem oD {w:World} {B0 c i j k:Nat} {x:ku} {f:aG} {N:List ah} {K:aV} (h:aJ w B0 c i j k x f N K) (s:ByteArray) (l:s.size<=maxLen) :
  He 36 #[ak (some ⟨c,0,none⟩),ac s] w (aa ab (bG N s)):=by
 obtain⟨p,d,g⟩:=h.Qh;have b:=d.look Tryz.underlying112 (XK w) l;have o:w.cell? ⟨c,6,none⟩=some (.map (some i)):=h.blk.cell 6;rw[g s] at b;obtain⟨n,a⟩:=af (bG N s);rw[a] at b ⊢;by_cases h0:n<0
 .rw[if_pos h0] at b;have m:n = -1:=by
   rw[<- a] at h0 ⊢;unfold bG at h0 ⊢;split at h0
   .omega
   .rfl
  subst m;clear h g d a h0;go_enter Tryz.func36,Tryz.ntmps36;go_wp2;go_ret;exact⟨rfl,rfl⟩
 .rw[if_neg h0] at b;clear h g d a h0;go_enter Tryz.func36,Tryz.ntmps36;go_wp2;go_ret;exact⟨rfl,rfl⟩
set_option maxHeartbeats 4000000
set_option maxRecDepth 100000
theorem um {N:List ah} {s:ByteArray} (h:¬ bG N s<0):∃ i:Nat,bG N s=i/\i<N.length:=by
 unfold bG at h ⊢;split at h
 .rename_i i a;exact⟨i,rfl,(List.findIdx?_eq_some_iff_findIdx_eq.1 a).1⟩
 .exact absurd (by decide) h
theorem aJ.WH {w:World} {B0 k m d g:Nat} {x:ku} {f:aG} {N:List ah} {K:aV} (h:aJ w B0 k m d g x f N K) {i:Nat} (j:i<N.length) :
  ∃ ad A c,x.AN=some ad/\ad.block<w.heap.size/\w.cell? (ad.add (i*23))=some (aa ab N[i].it.k)/\w.cell? ⟨(ad.add (i*23)).block,(ad.add (i*23)).off+1,none⟩=some (ac N[i].it.nm)/\w.cell? ⟨(ad.add (i*23)).block,(ad.add (i*23)).off+5,none⟩=some (am N[i].it.sh)/\w.cell? ⟨(ad.add (i*23)).block,(ad.add (i*23)).off+8,none⟩=some (aa ab N[i].it.ans.k)/\w.cell? ⟨(ad.add (i*23)).block,(ad.add (i*23)).off+19,none⟩=some (aa ab N[i].par)/\w.cell? ⟨(ad.add (i*23)).block,(ad.add (i*23)).off+21,none⟩=some (aa ab N[i].dJ)/\w.cell? ⟨(ad.add (i*23)).block,(ad.add (i*23)).off+22,none⟩=some (ae A N[i].lo.length c)/\nP w w.heap.size A c N[i].lo:=by
 obtain⟨ad,cs,e,l,⟨n,A,c,rfl,hit,b,-,-⟩,a⟩:=h.nodes.at_ j;refine⟨ad,A,c,e,l,?_⟩;cases hit;exact⟨a 0 _ rfl,a 1 _ rfl,a 5 _ rfl,a 8 _ rfl,a 19 _ rfl,a 21 _ rfl,a 22 _ rfl,b⟩
theorem JO {w:World} {B0 j z u v:Nat} {x:ku} {f:aG} {N:List ah} {K:aV} (h:aJ w B0 j z u v x f N K) (s:ByteArray) (y:s.size<=maxLen) :
  He 173 #[ak (some ⟨j,0,none⟩),ac s] w (aa ab (vV N s)):=by
 have g:=qh (oD h s y);have t:w.cell? ⟨j,5,none⟩=some (ae x.AN N.length x.cn):=h.blk.cell 5;have a:=qh (show vV N s=if 0<=bG N s/\(je N (bG N s)).it.k≠4 then -1 else bG N s from rfl);by_cases h0:bG N s<0
 .have d:=qh (show vV N s=bG N s by rw[a.o,if_neg (by omega)]);obtain⟨n,b⟩:=af (bG N s);rw[b] at g d h0;rw[d.o];clear h b;go_enter Tryz.func173,Tryz.ntmps173;go_wp2_with (go_at_call 36;(with_reducible refine g.o.mono ?_);rintro o p ⟨rfl,rfl⟩);go_ret;exact⟨rfl,rfl⟩
 .obtain⟨i,b,m⟩:=um h0;obtain⟨ad,A,c,l,-,B,-,-,-,-,-,-,-⟩:=h.WH m;rw[l] at t;rw[b] at g a;rw[iY m] at a;have r:=h.cap;have C:=h.nodes.1;by_cases h4:N[i].it.k=4
  .have d:=qh (show vV N s=i by rw[a.o,if_neg (λ q=>q.2 h4)]);rw[d.o];have k:(N[i].it.k != 4)=false:=by simp[h4]
   clear h l h4 a b h0;go_enter Tryz.func173,Tryz.ntmps173;go_wp2_with (go_at_call 36;(with_reducible refine g.o.mono ?_);rintro o p ⟨rfl,rfl⟩);go_ret;exact⟨rfl,rfl⟩
  .have d:=qh (show vV N s = -1 by rw[a.o,if_pos ⟨by omega,h4⟩]);rw[d.o];have k:(N[i].it.k != 4)=true:=by simpa using h4
   clear h l h4 a b h0;go_enter Tryz.func173,Tryz.ntmps173;go_wp2_with (go_at_call 36;(with_reducible refine g.o.mono ?_);rintro o p ⟨rfl,rfl⟩);go_ret;exact⟨rfl,rfl⟩
set_option maxHeartbeats 4000000
set_option maxRecDepth 100000
theorem Qi {w:World} {B0 m V L O:Nat} {x:ku} {f:aG} {N:List ah} {K:aV} (h:aJ w B0 m V L O x f N K) (v:eH N)  (n:Nat) (d:n<N.length) :
  He 114 #[ak (some ⟨m,0,none⟩),aa ab n] w (am (uh N n)):=by
 have M:w.cell? ⟨m,5,none⟩=some (ae x.AN N.length x.cn):=h.blk.cell 5;have F:=h.cap;have W:=h.nodes.1;obtain⟨ad,A,c,u,-,r,-,-,-,j,-,-,-⟩:=h.WH d;have U:=qh (λ (i:Nat) (a:i<N.length)=>(show w.cell? (ad.add (i*23))=some (aa ab N[i].it.k)/\w.cell? ⟨(ad.add (i*23)).block,(ad.add (i*23)).off+19,none⟩=some (aa ab N[i].par) by
  obtain⟨t,A',c',z,-,T,-,-,-,Q,-,-,-⟩:=h.WH a;have:t=ad:=Option.some.inj (z.symm.trans u);subst this;exact⟨T,Q⟩))
 rw[u] at M;obtain⟨R,s⟩:=af (uh N n);have y:=qh s;rw[s];have G:=qh v;obtain⟨B,D⟩:=v n d;obtain⟨p,o⟩:=af (N[n].par);unfold uh at y;rw[iY d,o] at y;rw[o] at j B D;clear h u s v o;go_enter Tryz.func114,Tryz.ntmps114;go_wp2;go_loopw [5] (λ i wr=>∃ p:Int,i = aa ab p /\ -1<=p/\p<N.length/\Hid (R=(ups N p).any (λ x=>decide ((je N x).it.k=1)))/\wr=w) (λ i _=>(intOf i+1).toNat)
 case atStart=>exact⟨p,rfl,B,by omega,qh y.o.symm,rfl⟩
 case round =>
  obtain⟨p,rfl,P,S,E,rfl⟩:=hrel;clear r j B D d;by_cases h0:p<0
  .have b:=qh (show R=false by rw[E.o,uj h0];rfl);go_wp2;go_ret;exact⟨aj (by rw[b.o]),rfl⟩
  .obtain⟨i,rfl⟩:∃ i:Nat,p=i:=⟨p.toNat,by omega⟩;have a:i<N.length:=by omega
   obtain⟨r,j⟩:=U.o i a;obtain⟨I,H⟩:=G.o i a;have g:=qh (E.o.trans (by rw[wB G.o a,ba]:_=(decide ((je N (i:Int)).it.k=1) || (ups N N[i].par).any (λ x=>decide ((je N x).it.k=1)))));obtain⟨k,C⟩:=af (N[i].it.k);obtain⟨q,J⟩:=af (N[i].par);rw[show (je N (i:Int)).it.k=k from by rw[iY a,C]] at g;rw[C] at r;rw[J] at j I H g;clear C J;by_cases ht:k=1
   .have b:=qh (show R=true by rw[g.o,decide_eq_true ht,bb]);go_wp2;go_ret;exact⟨aj (by rw[b.o]),rfl⟩
   .have b:=qh (show R=(ups N q).any (λ x=>decide ((je N x).it.k=1)) by rw[g.o,decide_eq_false ht,bc]);have l:=qh (And.intro I H);go_wp2;go_roundw
    case rel=>exact⟨q,rfl,l.o.1,by have:=l.o.2;omega,b,by first | rfl | trivial⟩
    case measure =>
     have:=l.o;simp only[intOf];omega
theorem Qj {w:World} {B0 m W M P:Nat} {x:ku} {f:aG} {N:List ah} {K:aV} (h:aJ w B0 m W M P x f N K) (y:eH N) (a:Int) (n:Nat) (g:n<N.length) :
  He 217 #[ak (some ⟨m,0,none⟩),aa ab a,aa ab n] w (am (zI N a n)):=by
 have O:w.cell? ⟨m,5,none⟩=some (ae x.AN N.length x.cn):=h.blk.cell 5;have F:=h.cap;have X:=h.nodes.1;obtain⟨ad,A,c,v,-,r,-,-,-,j,-,-,-⟩:=h.WH g;have V:=qh (λ (i:Nat) (b:i<N.length)=>(show w.cell? (ad.add (i*23))=some (aa ab N[i].it.k)/\w.cell? ⟨(ad.add (i*23)).block,(ad.add (i*23)).off+19,none⟩=some (aa ab N[i].par) by
  obtain⟨u,A',c',B,-,U,-,-,-,S,-,-,-⟩:=h.WH b;have:u=ad:=Option.some.inj (B.symm.trans v);subst this;exact⟨U,S⟩))
 rw[v] at O;obtain⟨R,s⟩:=af (zI N a n);have z:=qh s;rw[s];have G:=qh y;obtain⟨C,D⟩:=y n g;obtain⟨p,o⟩:=af (N[n].par);unfold zI at z;rw[iY g,o] at z;rw[o] at j C D;clear h v s y o;go_enter Tryz.func217,Tryz.ntmps217;go_wp2;go_loopw [2] (λ i wr=>∃ p:Int,i = aa ab p /\ -1<=p/\p<N.length/\Hid (R=(ups N p).any (λ x=>decide (x=a)))/\wr=w) (λ i _=>(intOf i+1).toNat)
 case atStart=>exact⟨p,rfl,C,by omega,qh z.o.symm,rfl⟩
 case round =>
  obtain⟨p,rfl,Q,T,E,rfl⟩:=hrel;clear r j C D g;by_cases h0:p<0
  .have d:=qh (show R=false by rw[E.o,uj h0];rfl);go_wp2;go_ret;exact⟨aj (by rw[d.o]),rfl⟩
  .obtain⟨i,rfl⟩:∃ i:Nat,p=i:=⟨p.toNat,by omega⟩;have b:i<N.length:=by omega
   obtain⟨r,j⟩:=V.o i b;obtain⟨I,H⟩:=G.o i b;have t:=qh (E.o.trans (by rw[wB G.o b,ba]:_=(decide ((i:Int)=a) || (ups N N[i].par).any (λ x=>decide (x=a)))));obtain⟨k,L⟩:=af (N[i].it.k);obtain⟨q,J⟩:=af (N[i].par)
   skip
   rw[L] at r;rw[J] at j I H t;clear L J;by_cases ht:(i:Int)=a
   .have d:=qh (show R=true by rw[t.o,decide_eq_true ht,bb]);go_wp2;go_ret;exact⟨aj (by rw[d.o]),rfl⟩
   .have d:=qh (show R=(ups N q).any (λ x=>decide (x=a)) by rw[t.o,decide_eq_false ht,bc]);have l:=qh (And.intro I H);go_wp2;go_roundw
    case rel=>exact⟨q,rfl,l.o.1,by have:=l.o.2;omega,d,by first | rfl | trivial⟩
    case measure =>
     have:=l.o;simp only[intOf];omega
end Go.Proofs.YtcnagconagpkcaaGreatDoor
namespace Go.Proofs.YtcnagconagpkcaaGreatDoor
open Go.RowKit Go.Lib Go.Sort
attribute [local go_sem ↓] Go.wp_at_zero Go.wp_at_succ
set_option maxHeartbeats 4000000
set_option maxRecDepth 100000
theorem adK:(Tryz.prog.info? 3).map (λ i=>(i.zero,i.size,i.bytes))=some (some (.int .i64 0),1,8):=by kernel_rfl
theorem jT {w:World} {b size n:Nat} {e:TypeId} {v:Value} {d:List Value} (h:w.ownsRow b e size v n d):∃ A c,v = ae A n c:=by
 rcases h.2 with ⟨rfl,a⟩ | ⟨j,g,f,i,-⟩
 .exact⟨none,0,by first | rw[a] | rw[a.1]⟩
 .exact⟨_,_,i⟩
theorem Qk {B:Nat} {w:World} {g q:Nat} {d:Array Int} (h:B<=g):Below B w (putRow (ax ab) (Sort.ahead w q) g 0 d):=by
 refine⟨rfl,rfl,rfl,?_,λ k a=>?_⟩
 .unfold putRow mapBlock;simp[Sort.ahead]
 .unfold putRow mapBlock;simp only[Sort.ahead,Array.getElem?_modify];rw[if_neg (by omega)]
theorem XL (d:Array Int) (a:Array Value) (c:d.size<=a.size):(putCells (ax ab) 0 d a).toList.take d.size=bF ab d.toList:=by
 apply List.ext_getElem?;intro i;rw[aR];by_cases hi:i<d.size
 .rw[if_pos hi];unfold putCells bF;have b:i<a.size:=by omega
  simp only[Array.getElem?_toList,Array.getElem?_mapIdx,bd,Array.getElem?_eq_getElem b,Array.getElem?_eq_getElem hi,Option.map_some];rw[if_pos (by omega)];simp[hi]
 .rw[if_neg hi,List.getElem?_eq_none (by rw[mX];simpa using hi)]
theorem Nl {B:Nat} {v:Value} (l:List Int) (w:World) (h:w.ownsRow B 3 1 v l.length (bF ab l)) (y:l.length<=1000000) :
  Calls Tryz.prog 233 #[v] w λ e w'=>e = .returned (.tuple #[])/\w'.ownsRow B 3 1 v l.length (bF ab l.reverse)/\Below B w w':=by
 obtain⟨k,⟨rfl,o⟩ | ⟨g,c,cur,rfl,n,f,u,x,d,m⟩⟩:=h
 .have p:l = []:=by
   cases l with
   | nil=>rfl
   | cons a r=>simp[bF] at o
  subst p;refine (Tryz.slices_Reverse_int_empty none 0 w).mono ?_;rintro e w' ⟨rfl,rfl⟩;exact⟨rfl,World.ownsRow_nil _ _ _ _,Below.refl _ _⟩
 .rw[aX] at d m;have i:ag w g 3 cur:=f;have t:Holds (ax ab) w g 0 l.toArray:=by
   intro j s;have b:j<l.length:=by simpa using s
   refine⟨?_,i.frozen _⟩;rw[i.cell,Nat.zero_add];have e:(cur.toList.take l.length)[j]?=(bF ab l)[j]?:=by rw[m]
   rw[aR,if_pos (by omega)] at e;rw[<- Array.getElem?_toList,e];unfold bF;rw[bd,List.getElem?_eq_getElem b];simp[b]
  refine (Tryz.slices_Reverse_int g 0 c l w t (by omega)).mono ?_;rintro e w' ⟨rfl,q,rfl⟩;refine⟨rfl,⟨by rw[mX,aZ,aX],.inr ⟨g,c,putCells (ax ab) 0 l.reverse.toArray cur,rfl,n,?_,u,x,?_,?_⟩⟩,Qk n⟩
  .unfold putRow mapBlock;simp only[Sort.ahead,Array.getElem?_modify,if_true,f];rfl
  .unfold putCells;simp[d]
  .rw[aX];have:=XL l.reverse.toArray cur (by simp[d];omega);simp only[List.size_toArray,aZ] at this;exact this
theorem JP {N:List ah} (a:eH N):∀ (k:Nat) (n:Int),n<N.length->n<k->(ups N n).length<=k
 | 0,n,_,h=>by rw[uj (by omega)];simp
 | k+1,n,hn,h=>by
  by_cases h0:n<0
  .rw[uj h0];simp
  .obtain⟨i,rfl⟩:∃ i:Nat,n=i:=⟨n.toNat,by omega⟩;have b:i<N.length:=by omega
   obtain⟨d,c⟩:=a i b;rw[wB a b,ao];have:=JP a k N[i].par (by omega) (by omega);omega
theorem SC {w:World} {B0 o m1 P S:Nat} {x:ku} {f:aG} {N:List ah} {K:aV} (h:aJ w B0 o m1 P S x f N K) (E:eH N) (n:Nat) (hn:n<N.length) :
  Calls Tryz.prog 210 #[ak (some ⟨o,0,none⟩),aa ab n] w λ e w'=>(∃ v,e = .returned v/\w'.ownsRow w.heap.size 3 1 v (zH N n).length (bF ab (zH N n)))/\EG w w':=by
 obtain⟨O,z,r,F,s⟩:=info_parts adK;have J:=h.cap;have su:=h.nodes.1;have HK:=qh (λ (wr:World) (m:EG w wr) (i:Nat) (j:i<N.length)=>show ∃ ad,x.AN=some ad/\wr.cell? ⟨o,5,none⟩=some (ae (some ad) N.length x.cn)/\wr.cell? ⟨(ad.add (i*23)).block,(ad.add (i*23)).off+19,none⟩=some (aa ab N[i].par) from by
  have M:=h.keep m;obtain⟨ad,A,c,D,-,-,-,-,-,C,-,-,-⟩:=M.WH j;have c5:wr.cell? ⟨o,5,none⟩=some (ae x.AN N.length x.cn):=M.blk.cell 5;rw[D] at c5;exact⟨ad,D,c5,C⟩)
 have L:=qh E;have T:=qh (show (ups N n).length<=301 by have:=JP E (n+1) n (by omega) (by omega);omega);have HW:=qh (show zH N n=(ups N n).reverse from rfl);clear h E;go_enter Tryz.func210,Tryz.ntmps210;go_wp2;go_loopw [1,5] (λ i v wr=>∃ (p:Int) (l:List Int),i = aa ab p /\ -1<=p/\p<N.length/\wr.ownsRow w.heap.size 3 1 v l.length (bF ab l)/\Hid (l ++ ups N p=ups N n)/\EG w wr) (λ i _ _=>(intOf i+1).toNat)
 case atStart=>exact⟨n,[],rfl,by omega,by omega,World.ownsRow_nil _ _ _ _,qh rfl,Below.refl _ _⟩
 case round =>
  obtain⟨p,l,rfl,W,X,d,y,m⟩:=hrel;have Z:=m.size;have HO:=qh d;have V:l.length<=301:=by have:=T.o;rw[<- y.o,aw] at this;omega
  obtain⟨A9,c9,rfl⟩:=jT d;by_cases h0:p<0
  .have Q:=qh (show l=ups N n by rw[<- y.o,uj h0,List.append_nil]);clear d;go_wp2_with (go_at_call 233;(with_reducible refine (Nl l _ HO.o (by omega)).mono ?_);rintro e2 w2 ⟨rfl,G,b⟩);go_ret;refine⟨⟨_,rfl,?_⟩,m.trans b⟩;rw[HW.o,<- Q.o,aZ];exact G
  .obtain⟨i,rfl⟩:∃ i:Nat,p=i:=⟨p.toNat,by omega⟩;have j:i<N.length:=by omega
   have B:=qh (And.intro (L.o i j) (wB L.o j));have t:=d.alloc (.cells #[.int .i64 i] 3 (0,0));have Y:=qh d;obtain⟨q,H⟩:=af (N[i].par);have HQ:=qh H;rw[H] at B;clear d H;go_wp2_with (at_builtin;refine wpList_append_own _ rfl _ _ 54 rfl w.heap.size 3 O (.int .i64 0) 1 8 Tryz.underlying54 z r F s rfl (by decide) _ _ _ rfl t ⟨wr.heap.size,0,none⟩ 1 1 [.int .i64 i] rfl rfl ?c1 ?c2 ?c3 ?c4 ?c5 ?_)
   case c2=>first | rfl | (intro u I;simp only[List.mem_singleton] at I;subst I;rfl)
   case c3=>unfold maxLen;omega
   case c4=>omega
   case c5=>first | omega | (simp;omega)
   intro U w2 a k _;have b:RowKit.Below w.heap.size w w2:=(m.alloc Z _).grown k (by simp;omega) (λ g hg=>(t.lt g hg).1);obtain⟨ad,D,c5,C⟩:=HK.o w2 b i j;have R:=qh (show w2.ownsRow w.heap.size 3 1 U (l ++ [(i:Int)]).length (bF ab (l ++ [(i:Int)])) by
    have:=a;rw[show bF ab l ++ [ax ab (i:Int)]=bF ab (l ++ [(i:Int)]) by simp[bF]] at this;rw[aw];exact this)
   rw[HQ.o] at C;clear a k t;go_wp2;go_roundw
   case rel =>
    obtain⟨⟨q1,q2⟩,q3⟩:=B.o;exact⟨q,l ++ [(i:Int)],rfl,q1,by omega,R.o,qh (by rw[List.append_assoc,a2,<- q3];exact y.o),b⟩
   case measure =>
    have:=B.o.1;simp only[intOf];omega
end Go.Proofs.YtcnagconagpkcaaGreatDoor
