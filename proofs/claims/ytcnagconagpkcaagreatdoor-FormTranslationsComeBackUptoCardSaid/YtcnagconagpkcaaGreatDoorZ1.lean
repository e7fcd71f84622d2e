/- Lemmas. -/
import Derived.Test.YtcnagconagpkcaaGreatDoorProg
import Derived.WalkKit
import Derived.WalkSpells
import Derived.WalkLawsBesides
import Derived.Lib.Hide
import Derived.Deep.AppendLies
import Derived.Deep.Draws
import Derived.Deep.QuietTactic
import Derived.BigQuiet
import Derived.Laws.OwnMore
import Derived.Laws.Rows
import Derived.Deep.DeepCutAuto
import Derived.Deep.Light
import Derived.Outline
theorem Go.RowKit.Hid.o {p:Prop} (h:Go.RowKit.Hid p):p:=h
open Go.Value renaming int->aa, string->ac, slice->ae, ownBlock->aw
open Go.IntKind renaming i64->ab
open Go.Ending renaming returned->ag, returned->an
open Nat renaming le_refl->ak, zero_le->ao
open List renaming range->al, mem_cons->ap, getElem?_eq_getElem->aq, getElem?_drop->av, any_eq_true->ax, any_append->ay, mem_cons_self->aD, mem_cons_of_mem->aE
open Bool renaming not_eq_true->am
set_option maxHeartbeats 2000000
set_option maxRecDepth 100000
namespace Go.Proofs.YtcnagconagpkcaaGreatDoor
open Tryz
open Tryz renaming prog->lM
section
open Go.RowKit
abbrev DD (w w':World):Prop:=Below w.heap.size w w'
abbrev CS (f:FuncId) (a:Array Value) (w:World) (v:Value):Prop:=Calls lM f a w λ e w'=>e = ag v/\Below w.heap.size w w'
abbrev E5 (f:FuncId) (a:Array Value) (w:World) (v:Value):Prop:=Calls lM f a w λ e w'=>e = ag v/\w=w'
abbrev Hf (f:FuncId) (a:Array Value) (w:World) (v:Value):Prop:=Calls lM f a w λ e w'=>e = ag v/\w'=w
abbrev FD (f:FuncId) (a:Array Value) (w:World) (v:Value) (W:World):Prop:=Calls lM f a w λ e w'=>e = ag v/\Below W.heap.size W w'
structure Later (W:World) where
 w:World
 h:DD W w
instance (W:World):Inhabited (Later W):=⟨⟨W,Below.refl _ _⟩⟩
theorem aU {P:Program} {id:Nat} {Q:Exit->Act->World->Prop} {a:Act} {w:World} {l:List Oper} (b:P.follows .mixedOrders=true) (c:Region.lexB .any l.toArray=true)
  (h:wpQuiet P l.toArray (λ w'=>∃ p:Later w,w'=p.w) (λ a'=>∀ w',(∃ p:Later w,w'=p.w)->Q .normal a' w') l a):(Code.region id l.toArray true).wp P Q a w:=
 wp_region_quiet (C:=λ w'=>∃ p:Later w,w'=p.w) b c ⟨⟨w.drew,(Below.refl _ _).drew⟩,rfl⟩ (by simpa using h)
theorem Later.call {P:Program} {f:FuncId} {args:Array Value} {W:World} {v:Value} (h:∀ w',DD W w'->Calls P f args w' λ e a=>e = ag v/\DD w' a) :
  ∀ p:Later W,Calls P f args p.w λ e a=>e = ag v/\∃ q:Later W,a=q.w:=
 λ p=>(h p.w p.h).mono λ _ _ ⟨b,c⟩=>⟨b,⟨⟨_,p.h.trans (c.mono p.h.size)⟩,rfl⟩⟩
theorem Later.cell {W:World} {a:Addr} {v:Value} (h:W.cell? a=some v) (p:Later W):p.w.cell? a=some v:=by
 rw[p.h.cell (block_lt_of_cell h)];exact h
theorem Below.cell_of {W w':World} {a:Addr} {v:Value} (h:DD W w') (b:W.cell? a=some v):w'.cell? a=some v:=by
 rw[h.cell (block_lt_of_cell b)];exact b
theorem aj {k:IntKind} {a b:Int} (h:a=b):an (.int k a) = ag (.int k b):=by rw[h]
theorem aH {a b:Bool} (h:a=b):an (.bool a) = ag (.bool b):=by rw[h]
theorem dC {a b:Value} (h:a=b):an a = ag b:=by rw[h]
theorem _root_.Go.RowKit.Below.drewN {B:Nat} {w w':World} (h:Below B w w') (n:Nat):Below B w (w'.drewN n):=⟨h.os,h.tape,h.output,h.size,h.block⟩
theorem kH {a b:ByteArray} (h:a=b):(a.toList == b.toList)=true:=by subst h;simp
theorem dV {a b:ByteArray} (h:a≠b):(a.toList == b.toList)=false:=by
 rw[ByteArray.toList_eq,ByteArray.toList_eq,beq_eq_false_iff_ne];intro e;exact h (ByteArray.ext (Array.toList_inj.1 e))
theorem aea {W a:World} (c:DD W a):(∀ b o,b<W.heap.size->a.cell? ⟨b,o,none⟩=W.cell? ⟨b,o,none⟩)/\(∀ b o,b<W.heap.size->a.frozen? ⟨b,o,none⟩=W.frozen? ⟨b,o,none⟩):=
 ⟨λ b o h=>c.cell (p:=⟨b,o,none⟩) h,λ b o h=>c.frozen (p:=⟨b,o,none⟩) h⟩
theorem iw (a:Addr) (n:Nat):(a.add n).block=a.block:=by unfold Addr.add;split <;> rfl
theorem oQ (a:Addr) (i j:Nat):(a.add i).add j=a.add (i+j):=by
 unfold Addr.add;by_cases hi:i=0 <;> by_cases hj:j=0 <;> simp[hi,hj,Nat.add_assoc]
def Reads (w:World) (B size:Nat) (A:Option Addr) (n:Nat) (xs:List Value):Prop:=
 xs.length=n*size/\(0<n->∃ ad,A=some ad/\ad.block<B/\∀ j u,xs[j]?=some u->w.cell? (ad.add j)=some u)
section
variable {w w':World} {B B' size n:Nat} {A:Option Addr} {xs:List Value}
theorem Reads.none_:Reads w B size A 0 []:=⟨by simp,λ h=>absurd h (by omega)⟩
theorem Reads.at_ {k:Nat} (h:Reads w B 1 A n xs) (d:k<n):∃ ad u,A=some ad/\ad.block<B/\xs[k]?=some u/\w.cell? (ad.add k)=some u:=by
 obtain⟨ad,e,c,b⟩:=h.2 (by omega);have a:k<xs.length:=by have:=h.1;omega
 exact⟨ad,xs[k],e,c,aq a,b k _ (aq a)⟩
theorem Reads.keep (h:Reads w B size A n xs) (d:∀ p:Addr,p.block<B->w'.cell? p=w.cell? p):Reads w' B size A n xs:=
 ⟨h.1,λ f=>by
  obtain⟨ad,e,a,c⟩:=h.2 f;exact⟨ad,e,a,λ j u b=>(d _ (by rw[iw];exact a)).trans (c j u b)⟩⟩
theorem Reads.more (h:Reads w B size A n xs) (c:B<=B'):Reads w B' size A n xs:=
 ⟨h.1,λ b=>by
  obtain⟨ad,e,d,a⟩:=h.2 b;exact⟨ad,e,by omega,a⟩⟩
theorem Reads.below (h:Reads w B size A n xs) (b:Below B w w'):Reads w' B size A n xs:=h.keep λ _ a=>b.cell a
theorem Reads.drew (h:Reads w B size A n xs):Reads w.drew B size A n xs:=h
theorem Reads.drewN (h:Reads w B size A n xs) (k:Nat):Reads (w.drewN k) B size A n xs:=h
theorem Reads.alloc (h:Reads w B size A n xs) (b:B<=w.heap.size) (o:Obj):Reads (w.alloc o) B size A n xs:=h.keep λ p a=>World.cell?_alloc_lt w o p (by omega)
theorem Reads.setCell (h:Reads w B size A n xs) {p:Addr} (b:B<=p.block) (u:Value):Reads (w.setCell p u) B size A n xs:=
 h.keep λ q a=>World.cell?_setCell_other w p q u (λ e=>by subst e;omega)
theorem Reads.grown (h:Reads w B size A n xs) {a:Option Nat} (b:w.grownBy w' a) (f:B<=w.heap.size) (c:∀ g,a=some g->B<=g):Reads w' B size A n xs:=
 h.keep λ p d=>World.cell?_of_block (b.block p.block (by omega) (λ e=>by have:=c _ e.symm;omega))
theorem Reads.cut (h:Reads w B size A n xs) {k b:Nat} (e:k<=n) (f:n<=b) :
  Reads w B size (if b=k then A else A.map (·.add (k*size))) (n - k) (xs.drop (k*size)):=by
 refine⟨by rw[List.length_drop,h.1,Nat.sub_mul],λ g=>?_⟩;obtain⟨ad,rfl,d,a⟩:=h.2 (by omega);rw[if_neg (by omega)];refine⟨ad.add (k*size),rfl,by rw[iw];exact d,λ j u c=>?_⟩;rw[oQ];exact a _ u (by rw[<- c,av])
theorem Reads.fB {base:Nat} {e:TypeId} {c:Nat} (h:w.ownsRow base e size (ae A n c) n xs):Reads w w.heap.size size A n xs:=by
 refine⟨h.1,λ i=>?_⟩;obtain⟨g,d,b,_,a⟩:=h.form i;have f:A=some ⟨g,0,none⟩:=by injection b
 subst f;exact⟨_,rfl,a,h.cells (g:=g) rfl⟩
end
def ah (w:World) (g:Nat) (t:TypeId) (cs:Array Value):Prop:=w.heap[g]?=some (.cells cs t (0,0))
section
variable {w w':World} {g:Nat} {t:TypeId} {cs:Array Value}
theorem ah.lt (h:ah w g t cs):g<w.heap.size:=by
 rcases Nat.lt_or_ge g w.heap.size with b | a
 .exact b
 .unfold ah at h;rw[Array.getElem?_eq_none a] at h;cases h
theorem ah.cell (h:ah w g t cs) (i:Nat):w.cell? ⟨g,i,none⟩=cs[i]?:=cell_of_row w g i cs t (0,0) h
theorem ah.frozen (h:ah w g t cs) (i:Nat):w.frozen? ⟨g,i,none⟩=false:=by
 unfold ah at h;simp[World.frozen?,h]
theorem qh {p:Prop} (h:p):Hid p:=Lib.hid h
theorem ao8 {c d v0:UInt8} {z:Int} {n:Nat} (a:v0=c) (h:¬ c=d) (f:((d.toNat:Nat):Int)=z) (g:d.toNat=n):((v0.toNat:Int) == z)=false/\(v0.toNat == n)=false:=by
 subst a f g;have b:v0.toNat≠d.toNat:=λ e=>h (UInt8.toNat_inj.1 e);constructor
 .rw[beq_eq_false_iff_ne];omega
 .rw[beq_eq_false_iff_ne];exact b
theorem aG {α:Sort _} (a:α):∃ x,x=a:=⟨_,rfl⟩
theorem af {α:Sort _} (a:α):∃ x,a=x:=⟨_,rfl⟩
abbrev ZB (w:World) (b:Nat):Prop:=ah w b 67 #[aa ab 0,aa ab 0,ac ⟨#[]⟩,aa ab 0,aa ab 0,ac ⟨#[]⟩,ae none 0 0,ae none 0 0]
theorem ah.c2 {w:World} {b:Nat} {T:TypeId} {a a1:Value} (h:ah w b T #[a,a1]):w.cell? ⟨b,0,none⟩=some a/\w.cell? ⟨b,1,none⟩=some a1:=⟨h.cell 0,h.cell 1⟩
theorem ah.z2 {w:World} {b:Nat} {T:TypeId} {a c:Value} (h:ah w b T #[a,c]):w.cell? ⟨b,0,none⟩=some a/\w.frozen? ⟨b,0,none⟩=false/\w.cell? ⟨b,1,none⟩=some c/\w.frozen? ⟨b,1,none⟩=false:=⟨h.cell 0,h.frozen 0,h.cell 1,h.frozen 1⟩
theorem ah.c4 {w:World} {b:Nat} {T:TypeId} {c d a a3:Value} (h:ah w b T #[c,d,a,a3]):w.cell? ⟨b,0,none⟩=some c/\w.cell? ⟨b,1,none⟩=some d/\w.cell? ⟨b,2,none⟩=some a/\w.cell? ⟨b,3,none⟩=some a3:=⟨h.cell 0,h.cell 1,h.cell 2,h.cell 3⟩
theorem ah.z4 {w:World} {b:Nat} {T:TypeId} {c e a d:Value} (h:ah w b T #[c,e,a,d]):w.cell? ⟨b,0,none⟩=some c/\w.frozen? ⟨b,0,none⟩=false/\w.cell? ⟨b,1,none⟩=some e/\w.frozen? ⟨b,1,none⟩=false/\w.cell? ⟨b,2,none⟩=some a/\w.frozen? ⟨b,2,none⟩=false/\w.cell? ⟨b,3,none⟩=some d/\w.frozen? ⟨b,3,none⟩=false:=⟨h.cell 0,h.frozen 0,h.cell 1,h.frozen 1,h.cell 2,h.frozen 2,h.cell 3,h.frozen 3⟩
theorem ah.c8 {w:World} {b:Nat} {T:TypeId} {c i a e d f g a7:Value} (h:ah w b T #[c,i,a,e,d,f,g,a7]):w.cell? ⟨b,0,none⟩=some c/\w.cell? ⟨b,1,none⟩=some i/\w.cell? ⟨b,2,none⟩=some a/\w.cell? ⟨b,3,none⟩=some e/\w.cell? ⟨b,4,none⟩=some d/\w.cell? ⟨b,5,none⟩=some f/\w.cell? ⟨b,6,none⟩=some g/\w.cell? ⟨b,7,none⟩=some a7:=⟨h.cell 0,h.cell 1,h.cell 2,h.cell 3,h.cell 4,h.cell 5,h.cell 6,h.cell 7⟩
theorem ah.z8 {w:World} {b:Nat} {T:TypeId} {c j a f e g i d:Value} (h:ah w b T #[c,j,a,f,e,g,i,d]):w.cell? ⟨b,0,none⟩=some c/\w.frozen? ⟨b,0,none⟩=false/\w.cell? ⟨b,1,none⟩=some j/\w.frozen? ⟨b,1,none⟩=false/\w.cell? ⟨b,2,none⟩=some a/\w.frozen? ⟨b,2,none⟩=false/\w.cell? ⟨b,3,none⟩=some f/\w.frozen? ⟨b,3,none⟩=false/\w.cell? ⟨b,4,none⟩=some e/\w.frozen? ⟨b,4,none⟩=false/\w.cell? ⟨b,5,none⟩=some g/\w.frozen? ⟨b,5,none⟩=false/\w.cell? ⟨b,6,none⟩=some i/\w.frozen? ⟨b,6,none⟩=false/\w.cell? ⟨b,7,none⟩=some d/\w.frozen? ⟨b,7,none⟩=false:=⟨h.cell 0,h.frozen 0,h.cell 1,h.frozen 1,h.cell 2,h.frozen 2,h.cell 3,h.frozen 3,h.cell 4,h.frozen 4,h.cell 5,h.frozen 5,h.cell 6,h.frozen 6,h.cell 7,h.frozen 7⟩
theorem ah.new (w:World) (t:TypeId) (cs:Array Value):ah (w.alloc (.cells cs t)) w.heap.size t cs:=heap_alloc_new w _
theorem ah.drew (h:ah w g t cs):ah w.drew g t cs:=h
theorem ah.drewN (h:ah w g t cs) (n:Nat):ah (w.drewN n) g t cs:=h
theorem ah.alloc (h:ah w g t cs) (o:Obj):ah (w.alloc o) g t cs:=(Below.heap_alloc w o g h.lt).trans h
theorem ah.bP (h:ah w g t cs) (i:Nat) (u:Value):ah (w.setCell ⟨g,i,none⟩ u) g t (cs.setIfInBounds i u):=by
 unfold ah at h ⊢;simp[World.setCell,Array.getElem?_modify,h]
theorem dL {w a:World} {T:TypeId} {f c1 c2 c3:Value} (B:ah a w.heap.size T #[f,c1,c2,c3]) (h:DD w a) (c e b d:Value):∃ W,W=(((a.setCell ⟨w.heap.size,0,none⟩ c).setCell ⟨w.heap.size,1,none⟩ e).setCell ⟨w.heap.size,2,none⟩ b).setCell ⟨w.heap.size,3,none⟩ d/\ah W w.heap.size T #[c,e,b,d]/\DD w W:=
 ⟨_,rfl,((((B.bP 0 _).bP 1 _).bP 2 _).bP 3 _),((((h.setCell (p:=⟨w.heap.size,0,none⟩) (ak _) _).setCell (p:=⟨w.heap.size,1,none⟩) (ak _) _).setCell (p:=⟨w.heap.size,2,none⟩) (ak _) _).setCell (p:=⟨w.heap.size,3,none⟩) (ak _) _)⟩
theorem ah.far (h:ah w g t cs) {p:Addr} (a:g≠p.block) (u:Value):ah (w.setCell p u) g t cs:=(Below.heap_setCell w p u g a).trans h
theorem ah.below {B:Nat} (h:ah w g t cs) (b:Below B w w') (a:g<B):ah w' g t cs:=(b.block g a).trans h
theorem ah.grown {a:Option Nat} (h:ah w g t cs) (c:w.grownBy w' a) (b:some g≠a):ah w' g t cs:=(c.block g h.lt b).trans h
theorem ah.ne_ {g':Nat} {d:TypeId} {c:Array Value} (h:ah w g t cs) (a:ah w g' d c) (b:t≠d):g≠g':=by
 rintro rfl;unfold ah at h a;rw[h] at a;injection a with a;injection a with _ ht;exact b ht
theorem gu {base:Nat} {e:TypeId} {size n:Nat} {v:Value} {xs:List Value} (h:w.ownsRow base e size v n xs) (f:ah w g t cs) (a:e≠t):v.ownBlock≠some g:=by
 rcases h.2 with ⟨rfl,_⟩ | ⟨j,d,b,rfl,_,i,_⟩
 .simp[aw]
 .intro c;have:j=g:=by simpa [aw] using c
  subst this;exact ah.ne_ (t:=e) i f a rfl
end
def bK (k:IntKind) (l:List Int):List Value:=l.map (Value.int k)
theorem oU (κ:IntKind) (l:List Int) (k:Nat) (u:Value) (h:(bK κ l)[k]?=some u):∃ h:k<l.length,u = .int κ l[k]:=by
 unfold bK at h;rw[List.getElem?_map] at h;rcases hk:l[k]? with _ | x
 .rw[hk] at h;simp at h
 .rw[hk] at h;simp at h;obtain⟨b,a⟩:=List.getElem?_eq_some_iff.1 hk;exact⟨b,by rw[a,h]⟩
theorem uQ (κ:IntKind) (l:List Int):(bK κ l).length=l.length:=by simp[bK]
structure Val where
 k:Int
 n:Int
 s:ByteArray
 l:List Int
abbrev BF (x:Val) (A:Option Addr) (c:Nat):Array Value:=#[aa ab x.k,aa ab x.n,ac x.s,ae A x.l.length c]
def aW (n lo hi:Int):Bool:=decide (n<lo) || decide (hi<n)
theorem oK {n a b:Int} (h:n<a\/b<n):aW n a b=true:=by simp[aW];omega
theorem oV {n b a:Int} (h:b<=n) (c:n<=a):aW n b a=false:=by simp[aW];omega
theorem bG (a b c:Int) (w:World) :
  E5 121 #[aa ab a,aa ab b,aa ab c] w (.bool (aW a b c)):=by
 by_cases h1:a<b
 .have d:=qh (oK (.inl h1):aW a b c=true);go_enter func121,ntmps121;go_wp2;go_ret;exact⟨aH (by rw[d.o]),rfl⟩
 .by_cases h2:c<a
  .have d:=qh (oK (.inr h2):aW a b c=true);go_enter func121,ntmps121;go_wp2;go_ret;exact⟨aH (by rw[d.o]),rfl⟩
  .have d:=qh (oV (by omega) (by omega):aW a b c=false);go_enter func121,ntmps121;go_wp2;go_ret;exact⟨aH (by rw[d.o]),rfl⟩
def Ec (k:Int):Int:=if k=1 then 1 else if k=2 then -999999999999999 else if k=4 then 1 else if k=6 then -25567 else 0
def Ed (k:Int):Int:=if k=1 then 3 else if k=2 then 999999999999999 else if k=4 then 999 else if k=6 then 84005 else if k=7 then 1 else 0
theorem jd (k:Int) (w:World) :
  E5 180 #[aa ab k] w (.tuple #[aa ab (Ec k),aa ab (Ed k)]):=by
 go_enter func180,ntmps180;go_wp2
 all_goals (go_ret2;exact⟨dC (by simp_all[Ec,Ed]),rfl⟩)
def Xp (k:Int):Bool:=!decide (k=0) && (!decide (k=3) && !decide (k=5))
def rV (x:Val):Bool:=(!Xp x.k && !decide (x.n=0)) || ((!decide (x.k=3) && !decide (x.s.toList = [])) || (!decide (x.k=5) && !decide (x.l = [])))
theorem Ee (x:Val) (A:Option Addr) (c:Nat) (w:World) :
  Calls lM 179 #[.agg (BF x A c)] w
   λ e w'=>e = ag (.bool (rV x))/\DD w w':=by
 go_enter func179,ntmps179;go_wp2
 all_goals (go_ret;exact⟨aH (by simp_all[rV,Xp,List.length_pos_iff]),(Below.refl _ _).alloc (ak _) _⟩)
theorem SA {α:Type} {l:List α} {p:α->Bool} {k:Nat} (h:k<l.length) (a:p l[k]=true):l.any p=true:=ax.2 ⟨_,List.getElem_mem h,a⟩
theorem Mc {α:Type} {l:List α} {p:α->Bool} {k:Nat} (h:k<l.length) (a:p l[k]=false) (b:(l.take k).any p=false):(l.take (k+1)).any p=false:=by
 rw[List.take_succ_eq_append_getElem h,ay,b];simp[a]
theorem Md {α:Type} {l:List α} {p:α->Bool} {k:Nat} (h:l.length<=k) (a:(l.take k).any p=false):l.any p=false:=by
 rwa [List.take_of_length_le h] at a
def badByte (c:UInt8):Bool:=decide ((c.toNat:Int)<32) || decide (126<(c.toNat:Int))
def Ef (s:ByteArray):Bool:=s.data.toList.any badByte
def mW (c:Int):Bool:=aW c 1 999
def xP (l:List Int) (i:Nat):Bool:=decide (l.getD (i+1) 0<=l.getD i 0)
def nz (l:List Int):Bool:=(al (l.length - 1)).any (xP l)
def df (x:Val):Int:=
 if aW x.k 0 7=true then 4 else if rV x=true then 3 else if aW x.n (Ec x.k) (Ed x.k)=true then 1 else
 if 200<x.s.size\/40<x.l.length then 2 else if Ef x.s=true then 1 else if x.l.any mW=true then 1 else if nz x.l=true then 7 else 0
theorem Xq {s:ByteArray} {k:Nat} (h:k<s.size):∃ a:k<s.data.toList.length,s.data.toList[k]=s[k]:=⟨by simpa using h,rfl⟩
theorem SB {s:ByteArray} {k:Nat} (h:k<s.size) (a:(s[k].toNat:Int)<32\/126<(s[k].toNat:Int)):Ef s=true:=by
 obtain⟨b,e⟩:=Xq h;refine SA b ?_;rw[e];simpa [badByte] using a
theorem Xr {s:ByteArray} {k:Nat} (h:k<s.size) (d:¬ (s[k].toNat:Int)<32) (b:¬ 126<(s[k].toNat:Int)) (a:(s.data.toList.take k).any badByte=false):(s.data.toList.take (k+1)).any badByte=false:=by
 obtain⟨c,e⟩:=Xq h;refine Mc c ?_ a;rw[e];simp only[badByte,Bool.or_eq_false_iff,decide_eq_false_iff_not];exact⟨d,b⟩
theorem Xt {s:ByteArray} {k:Nat} (h:s.size<=k) (a:(s.data.toList.take k).any badByte=false):Ef s=false:=Md (by simpa using h) a
theorem Xu {l:List Int} {k:Nat} (b:1<=k) (h:k<l.length) (a:l[k]<=l[k - 1]):nz l=true:=by
 unfold nz;refine ax.2 ⟨k - 1,List.mem_range.2 (by omega),?_⟩;unfold xP;rw[show k - 1+1=k from by omega];simpa [List.getD,h,show k - 1<l.length from by omega] using a
theorem Uy {l:List Int} {k:Nat} (c:1<=k) (h:k<l.length) (b:¬ l[k]<=l[k - 1]) (a:(al (k - 1)).any (xP l)=false):(al (k+1 - 1)).any (xP l)=false:=by
 rw[show k+1 - 1=(k - 1)+1 from by omega,List.range_succ,ay,a,List.any_cons,List.any_nil];unfold xP;rw[show k - 1+1=k from by omega];simpa [List.getD,h,show k - 1<l.length from by omega] using b
theorem Uz {l:List Int} {k:Nat} (c:1<=k) (h:l.length<=k) (b:k<=l.length\/k=1) (a:(al (k - 1)).any (xP l)=false):nz l=false:=by
 unfold nz;rw[show l.length - 1=k - 1 from by omega];exact a
theorem check_any (x:Val) (A:Option Addr) (c B1:Nat) (w:World) (L:x.l.length<=maxLen) (M:x.s.size<=maxLen) (s:Reads w B1 1 A x.l.length (bK ab x.l)) (g:B1<=w.heap.size) :
  Calls lM 124 #[.agg (BF x A c)] w
   λ e w'=>e = ag (aa ab (df x))/\DD w w':=by
 by_cases e1:aW x.k 0 7=true
 .have a:=qh (show df x=4 by unfold df;rw[if_pos e1]);go_enter func124,ntmps124;go_wp2_with (first
    | (go_at_call 121;refine (bG _ _ _ _).mono ?_;rintro e w' ⟨rfl,rfl⟩)
    | (go_at_call 180;refine (jd _ _).mono ?_;rintro e w' ⟨rfl,rfl⟩))
  go_ret;exact⟨aj (by rw[a.o]),((Below.refl _ _).alloc (ak _) _)⟩
 have H:aW x.k 0 7=false:=by simpa using e1
 have l:=qh e1;clear e1;by_cases e2:rV x=true
 .have a:=qh (show df x=3 by unfold df;rw[if_neg l.o,if_pos e2]);go_enter func124,ntmps124;go_wp2_with (first
    | (go_at_call 121;refine (bG _ _ _ _).mono ?_;rintro e w' ⟨rfl,rfl⟩)
    | (go_at_call 180;refine (jd _ _).mono ?_;rintro e w' ⟨rfl,rfl⟩))
  refine (Ee _ _ _ _).mono ?_;rintro e w1 ⟨rfl,hb⟩;go_wp2;go_ret;exact⟨aj (by rw[a.o]),((Below.refl _ _).alloc (ak _) _).trans (hb.mono (by simp))⟩
 have C:rV x=false:=by simpa using e2
 have m:=qh e2;clear e2;go_enter func124,ntmps124;go_wp2_with (first
    | (go_at_call 121;refine (bG _ _ _ _).mono ?_;rintro e w' ⟨rfl,rfl⟩)
    | (go_at_call 180;refine (jd _ _).mono ?_;rintro e w' ⟨rfl,rfl⟩))
 refine (Ee _ _ _ _).mono ?_;rintro e w1 ⟨rfl,b⟩;have N:w1.cell? ⟨w.heap.size,0,none⟩=some (aa ab x.k):=Below.cell_of b (by simp[go_sem]);have c1:w1.cell? ⟨w.heap.size,1,none⟩=some (aa ab x.n):=Below.cell_of b (by simp[go_sem]);have c2:w1.cell? ⟨w.heap.size,2,none⟩=some (ac x.s):=Below.cell_of b (by simp[go_sem]);have c3:w1.cell? ⟨w.heap.size,3,none⟩=some (ae A x.l.length c):=Below.cell_of b (by simp[go_sem]);have hb:DD w w1:=((Below.refl _ _).alloc (ak _) _).trans (b.mono (by simp));clear b;by_cases e3:aW x.n (Ec x.k) (Ed x.k)=true
 .have a:=qh (show df x=1 by unfold df;rw[if_neg l.o,if_neg m.o,if_pos e3]);go_wp2_with (first
    | (go_at_call 121;refine (bG _ _ _ _).mono ?_;rintro e w' ⟨rfl,rfl⟩)
    | (go_at_call 180;refine (jd _ _).mono ?_;rintro e w' ⟨rfl,rfl⟩))
  go_ret;exact⟨aj (by rw[a.o]),hb⟩
 have B:aW x.n (Ec x.k) (Ed x.k)=false:=by simpa using e3
 have r:=qh e3;clear e3;by_cases e4:200<x.s.size
 .have a:=qh (show df x=2 by unfold df;rw[if_neg l.o,if_neg m.o,if_neg r.o,if_pos (.inl e4)]);go_wp2_with (first
    | (go_at_call 121;refine (bG _ _ _ _).mono ?_;rintro e w' ⟨rfl,rfl⟩)
    | (go_at_call 180;refine (jd _ _).mono ?_;rintro e w' ⟨rfl,rfl⟩))
  go_ret;exact⟨aj (by rw[a.o]),hb⟩
 by_cases e5:40<x.l.length
 .have a:=qh (show df x=2 by unfold df;rw[if_neg l.o,if_neg m.o,if_neg r.o,if_pos (.inr e5)]);go_wp2_with (first
    | (go_at_call 121;refine (bG _ _ _ _).mono ?_;rintro e w' ⟨rfl,rfl⟩)
    | (go_at_call 180;refine (jd _ _).mono ?_;rintro e w' ⟨rfl,rfl⟩))
  go_ret;exact⟨aj (by rw[a.o]),hb⟩
 have y:=qh (show df x=if Ef x.s=true then 1 else if x.l.any mW=true then 1 else if nz x.l=true then 7 else 0 by unfold df;rw[if_neg l.o,if_neg m.o,if_neg r.o,if_neg (by omega)]);clear l m r;go_wp2_with (first
    | (go_at_call 121;refine (bG _ _ _ _).mono ?_;rintro e w' ⟨rfl,rfl⟩)
    | (go_at_call 180;refine (jd _ _).mono ?_;rintro e w' ⟨rfl,rfl⟩))
 clear H C B
 go_loop [5] (λ i=>∃ k:Nat,k<=x.s.size/\i = aa ab k/\(x.s.data.toList.take k).any badByte=false) (λ i=>x.s.size - (intOf i).toNat)
 case atStart=>exact⟨0,ao _,rfl,rfl⟩
 case round =>
  obtain⟨k,S,rfl,f⟩:=hrel;have d:=qh f;clear f;by_cases hlt:k<x.s.size
  .by_cases b1:(x.s[k].toNat:Int)<32
   .have a:=qh (SB hlt (.inl b1));go_wp2;go_ret;exact⟨aj (by rw[y.o,if_pos a.o]),hb⟩
   by_cases b2:126<(x.s[k].toNat:Int)
   .have a:=qh (SB hlt (.inr b2));go_wp2;go_ret;exact⟨aj (by rw[y.o,if_pos a.o]),hb⟩
   have n:=qh (Xr hlt b1 b2 d.o);go_wp2
   go_round
   case rel=>exact⟨k+1,by omega,by go_num,n.o⟩
   case measure=>simp[intOf];omega
  have D:=qh (show df x=if x.l.any mW=true then 1 else if nz x.l=true then 7 else 0 by rw[y.o,if_neg (by rw[Xt (by omega) d.o];simp)]);clear y d;go_wp2
  go_loop [57,7] (λ i _=>∃ k:Nat,k<=x.l.length/\i = aa ab k/\(x.l.take k).any mW=false) (λ i _=>x.l.length - (intOf i).toNat)
  case atStart=>exact⟨0,ao _,rfl,rfl⟩
  case round =>
   obtain⟨t,Q,rfl,f⟩:=hrel;have d:=qh f;clear f;by_cases hl2:t<x.l.length
   .obtain⟨J,u,rfl,_,o,E⟩:=((s.more g).below hb).at_ hl2;obtain⟨_,rfl⟩:=oU _ _ _ _ o;clear o;by_cases b1:aW x.l[t] 1 999=true
    .have a:=qh (SA (p:=mW) hl2 b1);go_wp2_with (first
    | (go_at_call 121;refine (bG _ _ _ _).mono ?_;rintro e w' ⟨rfl,rfl⟩)
    | (go_at_call 180;refine (jd _ _).mono ?_;rintro e w' ⟨rfl,rfl⟩))
     go_ret;exact⟨aj (by rw[D.o,if_pos a.o]),hb⟩
    have z:aW x.l[t] 1 999=false:=by simpa using b1
    have n:=qh (Mc (p:=mW) hl2 z d.o);clear b1;go_wp2_with (first
    | (go_at_call 121;refine (bG _ _ _ _).mono ?_;rintro e w' ⟨rfl,rfl⟩)
    | (go_at_call 180;refine (jd _ _).mono ?_;rintro e w' ⟨rfl,rfl⟩))
    go_round
    case rel=>exact⟨t+1,by omega,by go_num,n.o⟩
    case measure=>simp[intOf];omega
   have G:=qh (show df x=if nz x.l=true then 7 else 0 by rw[D.o,if_neg (by rw[Md (by omega) d.o];simp)]);clear D d;go_wp2;go_loopw [8] (λ i wr=>∃ k:Nat,1<=k/\(k<=x.l.length\/k=1)/\i = aa ab k/\DD w1 wr/\(al (k - 1)).any (xP x.l)=false) (λ i _=>x.l.length - (intOf i).toNat)
   case atStart=>exact⟨1,ak _,.inr rfl,rfl,Below.refl _ _,rfl⟩
   case round =>
    obtain⟨q,j,F,rfl,h,f⟩:=hrel;have d:=qh f;clear f
    replace c3:=Below.cell_of h c3
    clear N c1 c2
    replace hb:=hb.trans (h.mono hb.size)
    by_cases hl3:q<x.l.length
    .obtain⟨J,u,rfl,_,o,E⟩:=((s.more g).below hb).at_ hl3;obtain⟨P,v,K,_,I,O⟩:=((s.more g).below hb).at_ (show q - 1<x.l.length by omega);obtain rfl:J=P:=by injection K
     obtain⟨_,rfl⟩:=oU _ _ _ _ o;obtain⟨_,rfl⟩:=oU _ _ _ _ I;clear o I K s;by_cases b1:x.l[q]<=x.l[q - 1]
     .have a:=qh (Xu j hl3 b1);go_wp2;go_quiet (fail);go_wp2;go_ret;exact⟨aj (by rw[G.o,if_pos a.o]),hb.drewN _⟩
     have n:=qh (Uy j hl3 b1 d.o);go_wp2;go_quiet (fail);go_wp2;go_roundw
     case rel=>exact⟨q+1,by omega,by omega,by go_num,h.drewN _,n.o⟩
     case measure=>simp[intOf];omega
    have R:=qh (show df x=0 by rw[G.o,if_neg (by rw[Uz j (by omega) F d.o];simp)]);clear G d;go_wp2;go_ret;exact⟨aj (by rw[R.o]),hb⟩
end
inductive Ex where
 | mk (k op:Int) (nm:ByteArray) (v:Val) (ar:List Ex)
def Ex.k:Ex->Int | .mk k _ _ _ _=>k
def Ex.op:Ex->Int | .mk _ op _ _ _=>op
def Ex.nm:Ex->ByteArray | .mk _ _ nm _ _=>nm
def Ex.v:Ex->Val | .mk _ _ _ v _=>v
def Ex.ar:Ex->List Ex | .mk _ _ _ _ ar=>ar
mutual
def Ex.parts:Ex->Nat
 | .mk _ _ _ _ ar=>aJ ar+1
def aJ:List Ex->Nat
 | []=>0
 | a :: r=>a.parts+aJ r
end
mutual
def Ex.depth:Ex->Nat
 | .mk _ _ _ _ ar=>lZ ar+1
def lZ:List Ex->Nat
 | []=>0
 | a :: r=>max a.depth (lZ r)
end
theorem parts_eq (e:Ex):e.parts=aJ e.ar+1:=by cases e;rw[Ex.parts];rfl
theorem Xv (e:Ex):e.depth=lZ e.ar+1:=by cases e;rw[Ex.depth];rfl
mutual
theorem Ex.ahH {P:Ex->Prop} (h:∀ k op nm v ar,(∀ a∈ar,P a)->P (.mk k op nm v ar)):∀ e,P e
 | .mk k op nm v ar=>h k op nm v ar (Ex.aeb h ar)
theorem Ex.aeb {P:Ex->Prop} (h:∀ k op nm v ar,(∀ a∈ar,P a)->P (.mk k op nm v ar)):∀ ar:List Ex,∀ a∈ar,P a
 | []=>λ _ c=>by cases c
 | b :: r=>λ a c=>by
  rcases ap.1 c with e | e
  .rw[e];exact Ex.ahH h b
  .exact Ex.aeb h r a e
end
theorem Ex.ind {P:Ex->Prop} (e:Ex) (h:∀ e:Ex,(∀ a∈e.ar,P a)->P e):P e:=Ex.ahH (λ k op nm v ar b=>h (.mk k op nm v ar) b) e
theorem xQ {a:Ex}:∀ {ar:List Ex},a∈ar->a.parts<=aJ ar
 | b :: r,h=>by
  rw[aJ];rcases ap.1 h with e | e
  .rw[e];omega
  .have:=xQ e;omega
theorem UA (e:Ex):0<e.parts:=by rw[parts_eq];omega
theorem Ak:∀ ar:List Ex,ar.length<=aJ ar
 | []=>ao _
 | a :: r=>by
  have:=Ak r;have:=UA a;rw[aJ,List.length_cons];omega
mutual
def Ex.meas:Ex->Nat->Nat × Nat->Nat × Nat
 | .mk _ _ _ _ ar,lv,s=>if 300<s.1+1\/20<lv then (s.1+1,max s.2 lv) else eQ ar (lv+1) (s.1+1,max s.2 lv)
def eQ:List Ex->Nat->Nat × Nat->Nat × Nat
 | [],_,s=>s
 | a :: r,lv,s=>eQ r lv (a.meas lv s)
end
theorem yP (e:Ex) (lv:Nat) (s:Nat × Nat):e.meas lv s=if 300<s.1+1\/20<lv then (s.1+1,max s.2 lv) else eQ e.ar (lv+1) (s.1+1,max s.2 lv):=by cases e;rw[Ex.meas];rfl
def bad (s:Nat × Nat):Prop:=300<s.1\/20<s.2
theorem Me {ar:List Ex} {lv:Nat} (h:∀ a∈ar,∀ s:Nat × Nat,s.1<=(a.meas lv s).1/\s.2<=(a.meas lv s).2):∀ s:Nat × Nat,s.1<=(eQ ar lv s).1/\s.2<=(eQ ar lv s).2:=by
 induction ar with
 | nil=>intro s;exact⟨ak _,ak _⟩
 | cons a r ih =>
  intro s;have e:=h a (aD ..) s;have d:=ih (λ b c=>h b (aE _ c)) (a.meas lv s);rw[eQ];omega
theorem SC (e:Ex):∀ lv (s:Nat × Nat),s.1<=(e.meas lv s).1/\s.2<=(e.meas lv s).2/\lv<=(e.meas lv s).2:=by
 induction e using Ex.ind with
 | h e ih =>
  intro lv s;rw[yP];split
  .exact⟨by show s.1<=s.1+1;omega,by show s.2<=max s.2 lv;omega,by show lv<=max s.2 lv;omega⟩
  .have:=Me (lv:=lv+1) (λ a b s=>⟨(ih a b (lv+1) s).1,(ih a b (lv+1) s).2.1⟩) (s.1+1,max s.2 lv);simp only at this;omega
theorem Xw {s t:Nat × Nat} (h:bad s) (b:s.1<=t.1) (a:s.2<=t.2):bad t:=by unfold bad at *;omega
theorem MB {lv:Nat}:∀ {ar:List Ex},(∀ a∈ar,∀ s:Nat × Nat,(¬ bad (s.1+a.parts,max s.2 (lv+a.depth))->a.meas (lv+1) s=(s.1+a.parts,max s.2 (lv+a.depth)))/\(bad (s.1+a.parts,max s.2 (lv+a.depth))->bad (a.meas (lv+1) s))) ->
  ∀ s:Nat × Nat,lv<=s.2->(¬ bad (s.1+aJ ar,max s.2 (lv+lZ ar))->eQ ar (lv+1) s=(s.1+aJ ar,max s.2 (lv+lZ ar)))/\(bad (s.1+aJ ar,max s.2 (lv+lZ ar))->bad (eQ ar (lv+1) s))
 | [],_,s,hs=>by
  rw[eQ,aJ,lZ];have e:(s.1+0,max s.2 (lv+0))=s:=Prod.ext (by simp) (by simp;omega);rw[e];exact⟨λ _=>rfl,id⟩
 | a :: r,h,s,hs=>by
  rw[eQ,aJ,lZ];obtain⟨j,i⟩:=h a (aD ..) s;have e:(s.1+(a.parts+aJ r),max s.2 (lv+max a.depth (lZ r)))=((s.1+a.parts,max s.2 (lv+a.depth)).1+aJ r,max (s.1+a.parts,max s.2 (lv+a.depth)).2 (lv+lZ r)):=
   Prod.ext (by simp;try omega) (by simp;try omega)
  by_cases c:bad (s.1+a.parts,max s.2 (lv+a.depth))
  .have g:=i c;have d:=Me (ar:=r) (lv:=lv+1) (λ b _ s=>⟨(SC b (lv+1) s).1,(SC b (lv+1) s).2.1⟩) (a.meas (lv+1) s);refine⟨λ k=>absurd (Xw c (by show _<=s.1+(a.parts+aJ r);simp;try omega) (by show _<=max s.2 (lv+max a.depth (lZ r));simp;try omega)) k,λ _=>Xw g d.1 d.2⟩
  .have f:=MB (λ b c=>h b (aE _ c)) (s.1+a.parts,max s.2 (lv+a.depth)) (by show lv<=max s.2 (lv+a.depth);omega);rw[j c,e];exact f
theorem abP (e:Ex):∀ lv (s:Nat × Nat),(¬ bad (s.1+e.parts,max s.2 (lv+e.depth))->e.meas (lv+1) s=(s.1+e.parts,max s.2 (lv+e.depth)))/\(bad (s.1+e.parts,max s.2 (lv+e.depth))->bad (e.meas (lv+1) s)):=by
 induction e using Ex.ind with
 | h e ih =>
  intro lv s;rw[yP,parts_eq,Xv];have c:=MB (lv:=lv+1) (λ a d s=>ih a d (lv+1) s) (s.1+1,max s.2 (lv+1)) (by simp;omega);have f:(s.1+(aJ e.ar+1),max s.2 (lv+(lZ e.ar+1)))=((s.1+1,max s.2 (lv+1)).1+aJ e.ar,max (s.1+1,max s.2 (lv+1)).2 (lv+1+lZ e.ar)):=Prod.ext (by simp;omega) (by simp;omega);rw[f];split
  .rename_i g;refine⟨λ b=>absurd ?_ b,λ _=>?_⟩
   .unfold bad;simp;omega
   .unfold bad;simp;omega
  .exact c
theorem Xx (e:Ex):bad (e.meas 1 (0,0)) ↔ 300<e.parts\/20<e.depth:=by
 have h:=abP e 0 (0,0);have a:((0,0):Nat × Nat).1+e.parts=e.parts:=by simp
 have b:max ((0,0):Nat × Nat).2 (0+e.depth)=e.depth:=by simp
 rw[a,b] at h;by_cases hb:bad (e.parts,e.depth)
 .exact⟨λ _=>hb,λ _=>h.2 hb⟩
 .rw[h.1 hb];exact Iff.rfl
def dK:List (List UInt8):=[[97,110,100],[111,114],[110,111,116],[105,110],[104,97,115],[109,111,100],[116,114,117,101],[102,97,108,115,101]]
def rW (c:UInt8):Bool:=decide (97<=c.toNat) && decide (c.toNat<=122)
def gp (c:UInt8):Bool:=rW c || (decide (48<=c.toNat) && decide (c.toNat<=57)) || decide (c.toNat=95)
def aP (s:List UInt8):Bool:=!decide (s = []) && decide (s.length<=16) && (match s with | c :: _=>rW c | []=>false) && !dK.contains s && s.all gp
def rX (v:Val):Bool:=decide (v.k=0) && decide (v.n=0) && decide (v.s.toList = []) && decide (v.l = [])
def jm (op:Int):Nat × Nat:=
 if op=2\/op=3\/op=24\/op=25 then (2,1099511627776) else if op=26 then (3,3) else
 if op=1\/(12<=op/\op<=14)\/(20<=op/\op<=23)\/(28<=op/\op<=30)\/(34<=op/\op<=36) then (1,1) else
 if 1<=op/\op<=39 then (2,2) else (0,0)
def MC (l:List Ex):Int:=match l with
 | a :: _=>a.k
 | []=>0
def dQ (k op:Int) (nm:ByteArray) (v:Val) (n:Nat):Bool:=
 if (k≠1/\rX v=false)\/(¬ (k=4\/k=5)/\(op≠0\/0<n))\/(¬ (k=2\/k=3\/k=5)/\nm.toList≠[]) then true else
 if k=5 then !decide (n=1) else decide (k=4) && (decide (n<(jm op).1) || decide ((jm op).2<n))
def Eg (k op:Int) (nm:ByteArray) (v:Val) (n:Nat) (hk:Int):Int:=
 if aW k 1 5=true then 4 else if k=4/\aW op 1 39=true then 4 else if k=5/\aW op 1 6=true then 4 else
 if dQ k op nm v n=true then 3 else
 if k=1 then (if v.k=0\/v.k=1 then 4 else df v) else
 if k=4 then (if 12<=op/\op<=14/\hk≠2 then 3 else 0) else
 if aP nm.data.toList=true then 0 else 5
def jw (e:Ex):Int:=Eg e.k e.op e.nm e.v e.ar.length (MC e.ar)
mutual
def Ex.fault:Ex->Int
 | .mk k op nm v ar=>if jw (.mk k op nm v ar)≠0 then jw (.mk k op nm v ar) else mf ar
def mf:List Ex->Int
 | []=>0
 | a :: r=>if a.fault≠0 then a.fault else mf r
end
theorem Eh (e:Ex):e.fault=if jw e≠0 then jw e else mf e.ar:=by cases e;rw[Ex.fault];rfl
def dR (e:Ex):Int:=if 300<e.parts\/20<e.depth then 2 else e.fault
theorem rY {e:Ex} (h:e.fault=0):jw e=0:=by
 rw[Eh] at h;split at h
 .rename_i a;exact absurd h a
 .rename_i a;exact Decidable.not_not.1 a
theorem Ei:∀ {l:List Ex},mf l=0->∀ a∈l,a.fault=0
 | b :: r,h,a,ha=>by
  rw[mf] at h;split at h
  .rename_i c;exact absurd h c
  .rename_i c;rcases ap.1 ha with e | e
   .rw[e];exact Decidable.not_not.1 c
   .exact Ei h a e
theorem vZ {e:Ex} (h:e.fault=0):∀ a∈e.ar,a.fault=0:=by
 have b:=rY h;rw[Eh,if_neg (by rw[b];decide)] at h;exact Ei h
structure PX (e:Ex):Prop where
 k:1<=e.k/\e.k<=5
 c:e.k=1->2<=e.v.k/\e.v.k<=7
 a0:e.k=1\/e.k=2\/e.k=3->e.ar = []
 op4:e.k=4->1<=e.op/\e.op<=39
 op5:e.k=5->1<=e.op/\e.op<=6
 a4:e.k=4->(jm e.op).1<=e.ar.length/\e.ar.length<=(jm e.op).2
 a5:e.k=5->e.ar.length=1
theorem rZ {a b k:Int} (h:aW k a b=false):a<=k/\k<=b:=by
 unfold aW at h;simp at h;omega
theorem kJ {e:Ex} (h:jw e=0):PX e:=by
 unfold jw Eg at h;by_cases c1:aW e.k 1 5=true
 .rw[if_pos c1] at h;exact absurd h (by decide)
 rw[if_neg c1] at h;by_cases c2:e.k=4/\aW e.op 1 39=true
 .rw[if_pos c2] at h;exact absurd h (by decide)
 rw[if_neg c2] at h;by_cases c3:e.k=5/\aW e.op 1 6=true
 .rw[if_pos c3] at h;exact absurd h (by decide)
 rw[if_neg c3] at h;by_cases c4:dQ e.k e.op e.nm e.v e.ar.length=true
 .rw[if_pos c4] at h;exact absurd h (by decide)
 rw[if_neg c4] at h;have c:=rZ (am _▸c1);unfold dQ at c4;split at c4
 .exact absurd rfl c4
 rename_i b;refine⟨c,λ a=>?_,λ a=>?_,λ a=>?_,λ a=>?_,λ a=>?_,λ a=>?_⟩
 .rw[if_pos a] at h;split at h
  .exact absurd h (by decide)
  .rename_i f;unfold df at h;split at h
   .exact absurd h (by decide)
   .rename_i d;have:=rZ (am _▸d);omega
 .refine List.eq_nil_of_length_eq_zero ?_;by_cases h0:0<e.ar.length
  .exact absurd (Or.inr (Or.inl ⟨by omega,Or.inr h0⟩)) b
  .omega
 .exact rZ (am _▸λ q=>c2 ⟨a,q⟩)
 .exact rZ (am _▸λ q=>c3 ⟨a,q⟩)
 .rw[if_neg (by omega)] at c4;simp[a] at c4;exact c4
 .rw[if_pos a] at c4;simpa using c4
open Go.RowKit
def aA (e:Ex) (A:Option Addr) (c:Nat) (A':Option Addr) (c':Nat):List Value:=
 [aa ab e.k,aa ab e.op,ac e.nm,aa ab e.v.k,aa ab e.v.n,ac e.v.s,ae A e.v.l.length c,ae A' e.ar.length c']
abbrev BC (k o:Int) (s:ByteArray) (v:Val) (A:Option Addr) (c:Nat) (B:Option Addr) (m d:Nat):Array Value:=#[aa ab k,aa ab o,ac s,aa ab v.k,aa ab v.n,ac v.s,ae A v.l.length c,ae B m d]
abbrev Ag (e:Ex) (A:Option Addr) (c:Nat) (B:Option Addr) (m d:Nat):Array Value:=#[aa ab e.k,aa ab e.op,ac e.nm,aa ab e.v.k,aa ab e.v.n,ac e.v.s,ae A e.v.l.length c,ae B m d]
inductive bC (w:World) (B:Nat):Ex->List Value->Prop
 | mk {e:Ex} {A:Option Addr} {c:Nat} {A':Option Addr} {c':Nat} {cs:List Value} (hn:e.nm.size<=maxLen) (hs:e.v.s.size<=maxLen) (hl:e.v.l.length<=maxLen) (ha:e.ar.length<=maxLen)
   (hx:Reads w B 1 A e.v.l.length (bK ab e.v.l)) (hr:Reads w B 8 A' e.ar.length cs) (hi:∀ i (h:i<e.ar.length),bC w B e.ar[i] ((cs.drop (i*8)).take 8)):bC w B e (aA e A c A' c')
theorem bC.keep {w w':World} {B:Nat} {e:Ex} {cs:List Value} (h:bC w B e cs) (a:Below B w w'):bC w' B e cs:=by
 induction h with
 | mk hn hs hl ha hx hr hi ih=>exact .mk hn hs hl ha (hx.below a) (hr.below a) ih
theorem bC.up {w:World} {B B':Nat} {e:Ex} {cs:List Value} (h:bC w B e cs) (a:B<=B'):bC w B' e cs:=by
 induction h with
 | mk hn hs hl ha hx hr hi ih=>exact .mk hn hs hl ha (hx.more a) (hr.more a) ih
theorem bC.arg {w:World} {B:Nat} {e:Ex} {A':Option Addr} {cs:List Value} (g:Reads w B 8 A' e.ar.length cs) (c:∀ i (h:i<e.ar.length),bC w B e.ar[i] ((cs.drop (i*8)).take 8)) {i:Nat} (h:i<e.ar.length) :
  ∃ ad b,A'=some ad/\ad.block<B/\bC w B e.ar[i] b/\∀ j u,b[j]?=some u->w.cell? ((ad.add (i*8)).add j)=some u:=by
 obtain⟨ad,rfl,f,d⟩:=g.2 (by omega);refine⟨ad,_,rfl,f,c i h,λ j u a=>?_⟩;rw[oQ];refine d _ u ?_;rw[List.getElem?_take] at a;split at a
 .rw[av] at a;exact a
 .cases a
theorem Ce (a:Ex):∀ l:List Ex,aJ (l ++ [a])=aJ l+a.parts
 | []=>by simp[aJ]
 | b :: r=>by rw[List.cons_append,aJ,aJ,Ce a r];omega
theorem MF (l:List Ex):∀ k,aJ (l.take k)<=aJ l:=by
 induction l with
 | nil=>intro k;simp[aJ]
 | cons a r ih =>
  intro k;cases k with
  | zero=>simp[aJ]
  | succ k=>rw[List.take_succ_cons,aJ,aJ];have:=ih k;omega
end Go.Proofs.YtcnagconagpkcaaGreatDoor
