/- Lemmas. -/
import Derived.Test.YtcnagconagpkcaaGreatDoorProg
import Derived.WalkKit
import Derived.WalkSpells
import Derived.WalkLawsBesides
import Derived.Lib.Hide
import Derived.Deep.AppendLies
import Derived.Deep.Draws
import Derived.Deep.QuietTactic
import Derived.BigQuiet
import Derived.Laws.OwnMore
import Derived.Laws.Rows
import Derived.Shelf.Strings.Builder1
import Derived.Deep.DeepCutAuto
import Derived.Deep.Light
import Derived.Outline
set_option maxHeartbeats 2000000
set_option maxRecDepth 100000
theorem Go.RowKit.Hid.o {p:Prop} (h:Go.RowKit.Hid p):p:=h
open Go.Value renaming int->aa, string->ac, slice->ae, ownBlock->ax
open Go.IntKind renaming i64->ab
open Go.Ending renaming returned->ak, returned->ao
open Nat renaming le_refl->al, zero_le->ap
open List renaming range->am, mem_cons->aq, getElem?_eq_getElem->av, getElem?_drop->aw, any_eq_true->ay, any_append->aA, mem_cons_self->aD, mem_cons_of_mem->aE
open Bool renaming not_eq_true->an
namespace Go.Proofs.YtcnagconagpkcaaGreatDoor
open Go.RowKit
abbrev EG (w w':World):Prop:=Below w.heap.size w w'
abbrev CS (f:FuncId) (a:Array Value) (w:World) (v:Value):Prop:=Calls Tryz.prog f a w λ e w'=>e = ak v/\Below w.heap.size w w'
abbrev He (f:FuncId) (a:Array Value) (w:World) (v:Value):Prop:=Calls Tryz.prog f a w λ e w'=>e = ak v/\w=w'
abbrev H8 (f:FuncId) (a:Array Value) (w:World) (v:Value):Prop:=Calls Tryz.prog f a w λ e w'=>e = ak v/\w'=w
abbrev Hl (f:FuncId) (a:Array Value) (w:World) (v:Value) (W:World):Prop:=Calls Tryz.prog f a w λ e w'=>e = ak v/\Below W.heap.size W w'
structure Later (W:World) where
 w:World
 h:EG W w
instance (W:World):Inhabited (Later W):=⟨⟨W,Below.refl _ _⟩⟩
theorem aO {P:Program} {id:Nat} {Q:Exit->Act->World->Prop} {a:Act} {w:World} {l:List Oper} (d:P.follows .mixedOrders=true) (c:Region.lexB .any l.toArray=true)
  (h:wpQuiet P l.toArray (λ w'=>∃ p:Later w,w'=p.w) (λ b=>∀ w',(∃ p:Later w,w'=p.w)->Q .normal b w') l a):(Code.region id l.toArray true).wp P Q a w:=
 wp_region_quiet (C:=λ w'=>∃ p:Later w,w'=p.w) d c ⟨⟨w.drew,(Below.refl _ _).drew⟩,rfl⟩ (by simpa using h)
theorem Later.call {P:Program} {f:FuncId} {args:Array Value} {W:World} {v:Value} (h:∀ w',EG W w'->Calls P f args w' λ e a=>e = ak v/\EG w' a) :
  ∀ p:Later W,Calls P f args p.w λ e a=>e = ak v/\∃ q:Later W,a=q.w:=
 λ p=>(h p.w p.h).mono λ _ _ ⟨b,c⟩=>⟨b,⟨⟨_,p.h.trans (c.mono p.h.size)⟩,rfl⟩⟩
theorem Later.cell {W:World} {a:Addr} {v:Value} (h:W.cell? a=some v) (p:Later W):p.w.cell? a=some v:=by
 rw[p.h.cell (block_lt_of_cell h)];exact h
theorem Below.cell_of {W w':World} {a:Addr} {v:Value} (h:EG W w') (b:W.cell? a=some v):w'.cell? a=some v:=by
 rw[h.cell (block_lt_of_cell b)];exact b
theorem ai {k:IntKind} {a b:Int} (h:a=b):ao (.int k a) = ak (.int k b):=by rw[h]
theorem aj {a b:Bool} (h:a=b):ao (.bool a) = ak (.bool b):=by rw[h]
theorem dC {a b:Value} (h:a=b):ao a = ak b:=by rw[h]
theorem _root_.Go.RowKit.Below.drewN {B:Nat} {w w':World} (h:Below B w w') (n:Nat):Below B w (w'.drewN n):=⟨h.os,h.tape,h.output,h.size,h.block⟩
theorem kz {a b:ByteArray} (h:a=b):(a.toList == b.toList)=true:=by subst h;simp
theorem dR {a b:ByteArray} (h:a≠b):(a.toList == b.toList)=false:=by
 rw[ByteArray.toList_eq,ByteArray.toList_eq,beq_eq_false_iff_ne];intro e;exact h (ByteArray.ext (Array.toList_inj.1 e))
theorem acW {W a:World} (c:EG W a):(∀ b o,b<W.heap.size->a.cell? ⟨b,o,none⟩=W.cell? ⟨b,o,none⟩)/\(∀ b o,b<W.heap.size->a.frozen? ⟨b,o,none⟩=W.frozen? ⟨b,o,none⟩):=
 ⟨λ b o h=>c.cell (p:=⟨b,o,none⟩) h,λ b o h=>c.frozen (p:=⟨b,o,none⟩) h⟩
theorem iW (a:Addr) (n:Nat):(a.add n).block=a.block:=by unfold Addr.add;split <;> rfl
theorem kC (a:Addr) (i j:Nat):(a.add i).add j=a.add (i+j):=by
 unfold Addr.add;by_cases hi:i=0 <;> by_cases hj:j=0 <;> simp[hi,hj,Nat.add_assoc]
def Reads (w:World) (B size:Nat) (A:Option Addr) (n:Nat) (xs:List Value):Prop:=
 xs.length=n*size/\(0<n->∃ ad,A=some ad/\ad.block<B/\∀ j u,xs[j]?=some u->w.cell? (ad.add j)=some u)
section
variable {w w':World} {B B' size n:Nat} {A:Option Addr} {xs:List Value}
theorem Reads.none_:Reads w B size A 0 []:=⟨by simp,λ h=>absurd h (by omega)⟩
theorem Reads.at_ {k:Nat} (h:Reads w B 1 A n xs) (d:k<n):∃ ad u,A=some ad/\ad.block<B/\xs[k]?=some u/\w.cell? (ad.add k)=some u:=by
 obtain⟨ad,e,c,b⟩:=h.2 (by omega);have a:k<xs.length:=by have:=h.1;omega
 exact⟨ad,xs[k],e,c,av a,b k _ (av a)⟩
theorem Reads.keep (h:Reads w B size A n xs) (f:∀ p:Addr,p.block<B->w'.cell? p=w.cell? p):Reads w' B size A n xs:=
 ⟨h.1,λ b=>by
  obtain⟨ad,e,a,c⟩:=h.2 b;exact⟨ad,e,a,λ j u d=>(f _ (by rw[iW];exact a)).trans (c j u d)⟩⟩
theorem Reads.more (h:Reads w B size A n xs) (c:B<=B'):Reads w B' size A n xs:=
 ⟨h.1,λ a=>by
  obtain⟨ad,e,d,b⟩:=h.2 a;exact⟨ad,e,by omega,b⟩⟩
theorem Reads.below (h:Reads w B size A n xs) (a:Below B w w'):Reads w' B size A n xs:=h.keep λ _ b=>a.cell b
theorem Reads.drew (h:Reads w B size A n xs):Reads w.drew B size A n xs:=h
theorem Reads.drewN (h:Reads w B size A n xs) (k:Nat):Reads (w.drewN k) B size A n xs:=h
theorem Reads.alloc (h:Reads w B size A n xs) (b:B<=w.heap.size) (o:Obj):Reads (w.alloc o) B size A n xs:=h.keep λ p a=>World.cell?_alloc_lt w o p (by omega)
theorem Reads.setCell (h:Reads w B size A n xs) {p:Addr} (a:B<=p.block) (u:Value):Reads (w.setCell p u) B size A n xs:=
 h.keep λ q b=>World.cell?_setCell_other w p q u (λ e=>by subst e;omega)
theorem Reads.grown (h:Reads w B size A n xs) {a:Option Nat} (c:w.grownBy w' a) (f:B<=w.heap.size) (b:∀ g,a=some g->B<=g):Reads w' B size A n xs:=
 h.keep λ p d=>World.cell?_of_block (c.block p.block (by omega) (λ e=>by have:=b _ e.symm;omega))
theorem Reads.cut (h:Reads w B size A n xs) {k b:Nat} (g:k<=n) (f:n<=b) :
  Reads w B size (if b=k then A else A.map (·.add (k*size))) (n - k) (xs.drop (k*size)):=by
 refine⟨by rw[List.length_drop,h.1,Nat.sub_mul],λ e=>?_⟩;obtain⟨ad,rfl,d,a⟩:=h.2 (by omega);rw[if_neg (by omega)];refine⟨ad.add (k*size),rfl,by rw[iW];exact d,λ j u c=>?_⟩;rw[kC];exact a _ u (by rw[<- c,aw])
theorem Reads.fM {base:Nat} {e:TypeId} {c:Nat} (h:w.ownsRow base e size (ae A n c) n xs):Reads w w.heap.size size A n xs:=by
 refine⟨h.1,λ d=>?_⟩;obtain⟨g,f,b,_,a⟩:=h.form d;have i:A=some ⟨g,0,none⟩:=by injection b
 subst i;exact⟨_,rfl,a,h.cells (g:=g) rfl⟩
end
def ag (w:World) (g:Nat) (t:TypeId) (cs:Array Value):Prop:=w.heap[g]?=some (.cells cs t (0,0))
section
variable {w w':World} {g:Nat} {t:TypeId} {cs:Array Value}
theorem ag.lt (h:ag w g t cs):g<w.heap.size:=by
 rcases Nat.lt_or_ge g w.heap.size with a | b
 .exact a
 .unfold ag at h;rw[Array.getElem?_eq_none b] at h;cases h
theorem ag.cell (h:ag w g t cs) (i:Nat):w.cell? ⟨g,i,none⟩=cs[i]?:=cell_of_row w g i cs t (0,0) h
theorem ag.frozen (h:ag w g t cs) (i:Nat):w.frozen? ⟨g,i,none⟩=false:=by
 unfold ag at h;simp[World.frozen?,h]
theorem qh {p:Prop} (h:p):Hid p:=Lib.hid h
theorem eU {c d a:UInt8} {z:Int} {n:Nat} (i:a=c) (h:¬ c=d) (f:((d.toNat:Nat):Int)=z) (b:d.toNat=n):((a.toNat:Int) == z)=false/\(a.toNat == n)=false:=by
 subst i f b;have g:a.toNat≠d.toNat:=λ e=>h (UInt8.toNat_inj.1 e);constructor
 .rw[beq_eq_false_iff_ne];omega
 .rw[beq_eq_false_iff_ne];exact g
theorem aH {α:Sort _} (a:α):∃ x,x=a:=⟨_,rfl⟩
theorem af {α:Sort _} (a:α):∃ x,a=x:=⟨_,rfl⟩
abbrev ZB (w:World) (b:Nat):Prop:=ag w b 67 #[aa ab 0,aa ab 0,ac ⟨#[]⟩,aa ab 0,aa ab 0,ac ⟨#[]⟩,ae none 0 0,ae none 0 0]
theorem ag.c2 {w:World} {b:Nat} {T:TypeId} {a a1:Value} (h:ag w b T #[a,a1]):w.cell? ⟨b,0,none⟩=some a/\w.cell? ⟨b,1,none⟩=some a1:=⟨h.cell 0,h.cell 1⟩
theorem ag.z2 {w:World} {b:Nat} {T:TypeId} {a c:Value} (h:ag w b T #[a,c]):w.cell? ⟨b,0,none⟩=some a/\w.frozen? ⟨b,0,none⟩=false/\w.cell? ⟨b,1,none⟩=some c/\w.frozen? ⟨b,1,none⟩=false:=⟨h.cell 0,h.frozen 0,h.cell 1,h.frozen 1⟩
theorem ag.c4 {w:World} {b:Nat} {T:TypeId} {a d c a3:Value} (h:ag w b T #[a,d,c,a3]):w.cell? ⟨b,0,none⟩=some a/\w.cell? ⟨b,1,none⟩=some d/\w.cell? ⟨b,2,none⟩=some c/\w.cell? ⟨b,3,none⟩=some a3:=⟨h.cell 0,h.cell 1,h.cell 2,h.cell 3⟩
theorem ag.z4 {w:World} {b:Nat} {T:TypeId} {c e d a:Value} (h:ag w b T #[c,e,d,a]):w.cell? ⟨b,0,none⟩=some c/\w.frozen? ⟨b,0,none⟩=false/\w.cell? ⟨b,1,none⟩=some e/\w.frozen? ⟨b,1,none⟩=false/\w.cell? ⟨b,2,none⟩=some d/\w.frozen? ⟨b,2,none⟩=false/\w.cell? ⟨b,3,none⟩=some a/\w.frozen? ⟨b,3,none⟩=false:=⟨h.cell 0,h.frozen 0,h.cell 1,h.frozen 1,h.cell 2,h.frozen 2,h.cell 3,h.frozen 3⟩
theorem ag.c8 {w:World} {b:Nat} {T:TypeId} {c i f a g d e a7:Value} (h:ag w b T #[c,i,f,a,g,d,e,a7]):w.cell? ⟨b,0,none⟩=some c/\w.cell? ⟨b,1,none⟩=some i/\w.cell? ⟨b,2,none⟩=some f/\w.cell? ⟨b,3,none⟩=some a/\w.cell? ⟨b,4,none⟩=some g/\w.cell? ⟨b,5,none⟩=some d/\w.cell? ⟨b,6,none⟩=some e/\w.cell? ⟨b,7,none⟩=some a7:=⟨h.cell 0,h.cell 1,h.cell 2,h.cell 3,h.cell 4,h.cell 5,h.cell 6,h.cell 7⟩
theorem ag.z8 {w:World} {b:Nat} {T:TypeId} {c j f a i d e g:Value} (h:ag w b T #[c,j,f,a,i,d,e,g]):w.cell? ⟨b,0,none⟩=some c/\w.frozen? ⟨b,0,none⟩=false/\w.cell? ⟨b,1,none⟩=some j/\w.frozen? ⟨b,1,none⟩=false/\w.cell? ⟨b,2,none⟩=some f/\w.frozen? ⟨b,2,none⟩=false/\w.cell? ⟨b,3,none⟩=some a/\w.frozen? ⟨b,3,none⟩=false/\w.cell? ⟨b,4,none⟩=some i/\w.frozen? ⟨b,4,none⟩=false/\w.cell? ⟨b,5,none⟩=some d/\w.frozen? ⟨b,5,none⟩=false/\w.cell? ⟨b,6,none⟩=some e/\w.frozen? ⟨b,6,none⟩=false/\w.cell? ⟨b,7,none⟩=some g/\w.frozen? ⟨b,7,none⟩=false:=⟨h.cell 0,h.frozen 0,h.cell 1,h.frozen 1,h.cell 2,h.frozen 2,h.cell 3,h.frozen 3,h.cell 4,h.frozen 4,h.cell 5,h.frozen 5,h.cell 6,h.frozen 6,h.cell 7,h.frozen 7⟩
theorem ag.new (w:World) (t:TypeId) (cs:Array Value):ag (w.alloc (.cells cs t)) w.heap.size t cs:=heap_alloc_new w _
theorem ag.drew (h:ag w g t cs):ag w.drew g t cs:=h
theorem ag.drewN (h:ag w g t cs) (n:Nat):ag (w.drewN n) g t cs:=h
theorem ag.alloc (h:ag w g t cs) (o:Obj):ag (w.alloc o) g t cs:=(Below.heap_alloc w o g h.lt).trans h
theorem ag.dS (h:ag w g t cs) (i:Nat) (u:Value):ag (w.setCell ⟨g,i,none⟩ u) g t (cs.setIfInBounds i u):=by
 unfold ag at h ⊢;simp[World.setCell,Array.getElem?_modify,h]
theorem dU {w a:World} {T:TypeId} {f g i j:Value} (B:ag a w.heap.size T #[f,g,i,j]) (h:EG w a) (e d c b:Value):∃ W,W=(((a.setCell ⟨w.heap.size,0,none⟩ e).setCell ⟨w.heap.size,1,none⟩ d).setCell ⟨w.heap.size,2,none⟩ c).setCell ⟨w.heap.size,3,none⟩ b/\ag W w.heap.size T #[e,d,c,b]/\EG w W:=
 ⟨_,rfl,((((B.dS 0 _).dS 1 _).dS 2 _).dS 3 _),((((h.setCell (p:=⟨w.heap.size,0,none⟩) (al _) _).setCell (p:=⟨w.heap.size,1,none⟩) (al _) _).setCell (p:=⟨w.heap.size,2,none⟩) (al _) _).setCell (p:=⟨w.heap.size,3,none⟩) (al _) _)⟩
theorem ag.far (h:ag w g t cs) {p:Addr} (a:g≠p.block) (u:Value):ag (w.setCell p u) g t cs:=(Below.heap_setCell w p u g a).trans h
theorem ag.below {B:Nat} (h:ag w g t cs) (b:Below B w w') (a:g<B):ag w' g t cs:=(b.block g a).trans h
theorem ag.grown {a:Option Nat} (h:ag w g t cs) (c:w.grownBy w' a) (b:some g≠a):ag w' g t cs:=(c.block g h.lt b).trans h
theorem ag.ne_ {g':Nat} {d:TypeId} {b:Array Value} (h:ag w g t cs) (a:ag w g' d b) (c:t≠d):g≠g':=by
 rintro rfl;unfold ag at h a;rw[h] at a;injection a with a;injection a with _ ht;exact c ht
theorem jw {base:Nat} {e:TypeId} {size n:Nat} {v:Value} {xs:List Value} (h:w.ownsRow base e size v n xs) (j:ag w g t cs) (a:e≠t):v.ownBlock≠some g:=by
 rcases h.2 with ⟨rfl,_⟩ | ⟨d,f,c,rfl,_,b,_⟩
 .simp[ax]
 .intro i;have:d=g:=by simpa [ax] using i
  subst this;exact ag.ne_ (t:=e) b j a rfl
end
theorem infoByte:(Tryz.prog.info? 5).map (λ i=>(i.zero,i.size,i.bytes))=some (some (.int .u8 0),1,1):=by kernel_rfl
def mQ (a b:Int):Int:=if a<b then -1 else if b<a then 1 else 0
theorem zt (a b:Int) (w:World) :
  He 251 #[aa ab a,aa ab b] w (aa ab (mQ a b)):=by
 go_enter Tryz.func251,Tryz.ntmps251;go_wp2
 all_goals (go_ret;exact⟨ai (by simp[mQ, *] <;> omega),rfl⟩)
theorem Iw (a b:Int) (w:World) :
  H8 251 #[aa ab a,aa ab b] w (aa ab (mQ a b)):=(zt a b w).mono λ _ _ ⟨c,d⟩=>⟨c,d.symm⟩
def bF (k:IntKind) (l:List Int):List Value:=l.map (Value.int k)
theorem kD (κ:IntKind) (l:List Int) (k:Nat) (u:Value) (h:(bF κ l)[k]?=some u):∃ h:k<l.length,u = .int κ l[k]:=by
 unfold bF at h;rw[List.getElem?_map] at h;rcases hk:l[k]? with _ | x
 .rw[hk] at h;simp at h
 .rw[hk] at h;simp at h;obtain⟨b,a⟩:=List.getElem?_eq_some_iff.1 hk;exact⟨b,by rw[a,h]⟩
theorem mX (κ:IntKind) (l:List Int):(bF κ l).length=l.length:=by simp[bF]
structure Val where
 k:Int
 n:Int
 s:ByteArray
 l:List Int
abbrev BK (x:Val) (A:Option Addr) (c:Nat):Array Value:=#[aa ab x.k,aa ab x.n,ac x.s,ae A x.l.length c]
def bu (n lo hi:Int):Bool:=decide (n<lo) || decide (hi<n)
theorem pR {n b a:Int} (h:n<b\/a<n):bu n b a=true:=by simp[bu];omega
theorem pW {n a b:Int} (h:a<=n) (c:n<=b):bu n a b=false:=by simp[bu];omega
theorem bD (a b c:Int) (w:World) :
  He 121 #[aa ab a,aa ab b,aa ab c] w (.bool (bu a b c)):=by
 by_cases h1:a<b
 .have d:=qh (pR (.inl h1):bu a b c=true);go_enter Tryz.func121,Tryz.ntmps121;go_wp2;go_ret;exact⟨aj (by rw[d.o]),rfl⟩
 .by_cases h2:c<a
  .have d:=qh (pR (.inr h2):bu a b c=true);go_enter Tryz.func121,Tryz.ntmps121;go_wp2;go_ret;exact⟨aj (by rw[d.o]),rfl⟩
  .have d:=qh (pW (by omega) (by omega):bu a b c=false);go_enter Tryz.func121,Tryz.ntmps121;go_wp2;go_ret;exact⟨aj (by rw[d.o]),rfl⟩
def En (k:Int):Int:=if k=1 then 1 else if k=2 then -999999999999999 else if k=4 then 1 else if k=6 then -25567 else 0
def Eo (k:Int):Int:=if k=1 then 3 else if k=2 then 999999999999999 else if k=4 then 999 else if k=6 then 84005 else if k=7 then 1 else 0
theorem jy (k:Int) (w:World) :
  He 180 #[aa ab k] w (.tuple #[aa ab (En k),aa ab (Eo k)]):=by
 go_enter Tryz.func180,Tryz.ntmps180;go_wp2
 all_goals (go_ret2;exact⟨dC (by simp_all[En,Eo]),rfl⟩)
def WS (k:Int):Bool:=!decide (k=0) && (!decide (k=3) && !decide (k=5))
def tu (x:Val):Bool:=(!WS x.k && !decide (x.n=0)) || ((!decide (x.k=3) && !decide (x.s.toList = [])) || (!decide (x.k=5) && !decide (x.l = [])))
theorem Ep (x:Val) (A:Option Addr) (c:Nat) (w:World) :
  Calls Tryz.prog 179 #[.agg (BK x A c)] w
   λ e w'=>e = ak (.bool (tu x))/\EG w w':=by
 go_enter Tryz.func179,Tryz.ntmps179;go_wp2
 all_goals (go_ret;exact⟨aj (by simp_all[tu,WS,List.length_pos_iff]),(Below.refl _ _).alloc (al _) _⟩)
theorem RQ {α:Type} {l:List α} {p:α->Bool} {k:Nat} (h:k<l.length) (a:p l[k]=true):l.any p=true:=ay.2 ⟨_,List.getElem_mem h,a⟩
theorem LV {α:Type} {l:List α} {p:α->Bool} {k:Nat} (h:k<l.length) (a:p l[k]=false) (b:(l.take k).any p=false):(l.take (k+1)).any p=false:=by
 rw[List.take_succ_eq_append_getElem h,aA,b];simp[a]
theorem LX {α:Type} {l:List α} {p:α->Bool} {k:Nat} (h:l.length<=k) (a:(l.take k).any p=false):l.any p=false:=by
 rwa [List.take_of_length_le h] at a
def badByte (c:UInt8):Bool:=decide ((c.toNat:Int)<32) || decide (126<(c.toNat:Int))
def Es (s:ByteArray):Bool:=s.data.toList.any badByte
def nX (c:Int):Bool:=bu c 1 999
def yC (l:List Int) (i:Nat):Bool:=decide (l.getD (i+1) 0<=l.getD i 0)
def ou (l:List Int):Bool:=(am (l.length - 1)).any (yC l)
def di (x:Val):Int:=
 if bu x.k 0 7=true then 4 else if tu x=true then 3 else if bu x.n (En x.k) (Eo x.k)=true then 1 else
 if 200<x.s.size\/40<x.l.length then 2 else if Es x.s=true then 1 else if x.l.any nX=true then 1 else if ou x.l=true then 7 else 0
theorem WU {s:ByteArray} {k:Nat} (h:k<s.size):∃ a:k<s.data.toList.length,s.data.toList[k]=s[k]:=⟨by simpa using h,rfl⟩
theorem RS {s:ByteArray} {k:Nat} (h:k<s.size) (a:(s[k].toNat:Int)<32\/126<(s[k].toNat:Int)):Es s=true:=by
 obtain⟨b,e⟩:=WU h;refine RQ b ?_;rw[e];simpa [badByte] using a
theorem WV {s:ByteArray} {k:Nat} (h:k<s.size) (c:¬ (s[k].toNat:Int)<32) (d:¬ 126<(s[k].toNat:Int)) (a:(s.data.toList.take k).any badByte=false):(s.data.toList.take (k+1)).any badByte=false:=by
 obtain⟨b,e⟩:=WU h;refine LV b ?_ a;rw[e];simp only[badByte,Bool.or_eq_false_iff,decide_eq_false_iff_not];exact⟨c,d⟩
theorem WW {s:ByteArray} {k:Nat} (h:s.size<=k) (a:(s.data.toList.take k).any badByte=false):Es s=false:=LX (by simpa using h) a
theorem WX {l:List Int} {k:Nat} (b:1<=k) (h:k<l.length) (a:l[k]<=l[k - 1]):ou l=true:=by
 unfold ou;refine ay.2 ⟨k - 1,List.mem_range.2 (by omega),?_⟩;unfold yC;rw[show k - 1+1=k from by omega];simpa [List.getD,h,show k - 1<l.length from by omega] using a
theorem TZ {l:List Int} {k:Nat} (c:1<=k) (h:k<l.length) (b:¬ l[k]<=l[k - 1]) (a:(am (k - 1)).any (yC l)=false):(am (k+1 - 1)).any (yC l)=false:=by
 rw[show k+1 - 1=(k - 1)+1 from by omega,List.range_succ,aA,a,List.any_cons,List.any_nil];unfold yC;rw[show k - 1+1=k from by omega];simpa [List.getD,h,show k - 1<l.length from by omega] using b
theorem Ua {l:List Int} {k:Nat} (b:1<=k) (h:l.length<=k) (c:k<=l.length\/k=1) (a:(am (k - 1)).any (yC l)=false):ou l=false:=by
 unfold ou;rw[show l.length - 1=k - 1 from by omega];exact a
theorem check_any (x:Val) (A:Option Addr) (c B1:Nat) (w:World) (O:x.l.length<=maxLen) (P:x.s.size<=maxLen) (s:Reads w B1 1 A x.l.length (bF ab x.l)) (h:B1<=w.heap.size) :
  Calls Tryz.prog 124 #[.agg (BK x A c)] w
   λ e w'=>e = ak (aa ab (di x))/\EG w w':=by
 by_cases e1:bu x.k 0 7=true
 .have a:=qh (show di x=4 by unfold di;rw[if_pos e1]);go_enter Tryz.func124,Tryz.ntmps124;go_wp2_with (first
    | (go_at_call 121;refine (bD _ _ _ _).mono ?_;rintro e w' ⟨rfl,rfl⟩)
    | (go_at_call 180;refine (jy _ _).mono ?_;rintro e w' ⟨rfl,rfl⟩))
  go_ret;exact⟨ai (by rw[a.o]),((Below.refl _ _).alloc (al _) _)⟩
 have D:bu x.k 0 7=false:=by simpa using e1
 have l:=qh e1;clear e1;by_cases e2:tu x=true
 .have a:=qh (show di x=3 by unfold di;rw[if_neg l.o,if_pos e2]);go_enter Tryz.func124,Tryz.ntmps124;go_wp2_with (first
    | (go_at_call 121;refine (bD _ _ _ _).mono ?_;rintro e w' ⟨rfl,rfl⟩)
    | (go_at_call 180;refine (jy _ _).mono ?_;rintro e w' ⟨rfl,rfl⟩))
  refine (Ep _ _ _ _).mono ?_;rintro e w1 ⟨rfl,hb⟩;go_wp2;go_ret;exact⟨ai (by rw[a.o]),((Below.refl _ _).alloc (al _) _).trans (hb.mono (by simp))⟩
 have z:tu x=false:=by simpa using e2
 have m:=qh e2;clear e2;go_enter Tryz.func124,Tryz.ntmps124;go_wp2_with (first
    | (go_at_call 121;refine (bD _ _ _ _).mono ?_;rintro e w' ⟨rfl,rfl⟩)
    | (go_at_call 180;refine (jy _ _).mono ?_;rintro e w' ⟨rfl,rfl⟩))
 refine (Ep _ _ _ _).mono ?_;rintro e w1 ⟨rfl,b⟩;have L:w1.cell? ⟨w.heap.size,0,none⟩=some (aa ab x.k):=Below.cell_of b (by simp[go_sem]);have N:w1.cell? ⟨w.heap.size,1,none⟩=some (aa ab x.n):=Below.cell_of b (by simp[go_sem]);have S:w1.cell? ⟨w.heap.size,2,none⟩=some (ac x.s):=Below.cell_of b (by simp[go_sem]);have c3:w1.cell? ⟨w.heap.size,3,none⟩=some (ae A x.l.length c):=Below.cell_of b (by simp[go_sem]);have hb:EG w w1:=((Below.refl _ _).alloc (al _) _).trans (b.mono (by simp));clear b;by_cases e3:bu x.n (En x.k) (Eo x.k)=true
 .have a:=qh (show di x=1 by unfold di;rw[if_neg l.o,if_neg m.o,if_pos e3]);go_wp2_with (first
    | (go_at_call 121;refine (bD _ _ _ _).mono ?_;rintro e w' ⟨rfl,rfl⟩)
    | (go_at_call 180;refine (jy _ _).mono ?_;rintro e w' ⟨rfl,rfl⟩))
  go_ret;exact⟨ai (by rw[a.o]),hb⟩
 have G:bu x.n (En x.k) (Eo x.k)=false:=by simpa using e3
 have y:=qh e3;clear e3;by_cases e4:200<x.s.size
 .have a:=qh (show di x=2 by unfold di;rw[if_neg l.o,if_neg m.o,if_neg y.o,if_pos (.inl e4)]);go_wp2_with (first
    | (go_at_call 121;refine (bD _ _ _ _).mono ?_;rintro e w' ⟨rfl,rfl⟩)
    | (go_at_call 180;refine (jy _ _).mono ?_;rintro e w' ⟨rfl,rfl⟩))
  go_ret;exact⟨ai (by rw[a.o]),hb⟩
 by_cases e5:40<x.l.length
 .have a:=qh (show di x=2 by unfold di;rw[if_neg l.o,if_neg m.o,if_neg y.o,if_pos (.inr e5)]);go_wp2_with (first
    | (go_at_call 121;refine (bD _ _ _ _).mono ?_;rintro e w' ⟨rfl,rfl⟩)
    | (go_at_call 180;refine (jy _ _).mono ?_;rintro e w' ⟨rfl,rfl⟩))
  go_ret;exact⟨ai (by rw[a.o]),hb⟩
 have r:=qh (show di x=if Es x.s=true then 1 else if x.l.any nX=true then 1 else if ou x.l=true then 7 else 0 by unfold di;rw[if_neg l.o,if_neg m.o,if_neg y.o,if_neg (by omega)]);clear l m y;go_wp2_with (first
    | (go_at_call 121;refine (bD _ _ _ _).mono ?_;rintro e w' ⟨rfl,rfl⟩)
    | (go_at_call 180;refine (jy _ _).mono ?_;rintro e w' ⟨rfl,rfl⟩))
 clear D z G
 go_loop [5] (λ i=>∃ k:Nat,k<=x.s.size/\i = aa ab k/\(x.s.data.toList.take k).any badByte=false) (λ i=>x.s.size - (intOf i).toNat)
 case atStart=>exact⟨0,ap _,rfl,rfl⟩
 case round =>
  obtain⟨k,U,rfl,f⟩:=hrel;have d:=qh f;clear f;by_cases hlt:k<x.s.size
  .by_cases b1:(x.s[k].toNat:Int)<32
   .have a:=qh (RS hlt (.inl b1));go_wp2;go_ret;exact⟨ai (by rw[r.o,if_pos a.o]),hb⟩
   by_cases b2:126<(x.s[k].toNat:Int)
   .have a:=qh (RS hlt (.inr b2));go_wp2;go_ret;exact⟨ai (by rw[r.o,if_pos a.o]),hb⟩
   have n:=qh (WV hlt b1 b2 d.o);go_wp2
   go_round
   case rel=>exact⟨k+1,by omega,by go_num,n.o⟩
   case measure=>simp[intOf];omega
  have E:=qh (show di x=if x.l.any nX=true then 1 else if ou x.l=true then 7 else 0 by rw[r.o,if_neg (by rw[WW (by omega) d.o];simp)]);clear r d;go_wp2
  go_loop [57,7] (λ i _=>∃ k:Nat,k<=x.l.length/\i = aa ab k/\(x.l.take k).any nX=false) (λ i _=>x.l.length - (intOf i).toNat)
  case atStart=>exact⟨0,ap _,rfl,rfl⟩
  case round =>
   obtain⟨t,T,rfl,f⟩:=hrel;have d:=qh f;clear f;by_cases hl2:t<x.l.length
   .obtain⟨J,u,rfl,_,o,B⟩:=((s.more h).below hb).at_ hl2;obtain⟨_,rfl⟩:=kD _ _ _ _ o;clear o;by_cases b1:bu x.l[t] 1 999=true
    .have a:=qh (RQ (p:=nX) hl2 b1);go_wp2_with (first
    | (go_at_call 121;refine (bD _ _ _ _).mono ?_;rintro e w' ⟨rfl,rfl⟩)
    | (go_at_call 180;refine (jy _ _).mono ?_;rintro e w' ⟨rfl,rfl⟩))
     go_ret;exact⟨ai (by rw[E.o,if_pos a.o]),hb⟩
    have F:bu x.l[t] 1 999=false:=by simpa using b1
    have n:=qh (LV (p:=nX) hl2 F d.o);clear b1;go_wp2_with (first
    | (go_at_call 121;refine (bD _ _ _ _).mono ?_;rintro e w' ⟨rfl,rfl⟩)
    | (go_at_call 180;refine (jy _ _).mono ?_;rintro e w' ⟨rfl,rfl⟩))
    go_round
    case rel=>exact⟨t+1,by omega,by go_num,n.o⟩
    case measure=>simp[intOf];omega
   have C:=qh (show di x=if ou x.l=true then 7 else 0 by rw[E.o,if_neg (by rw[LX (by omega) d.o];simp)]);clear E d;go_wp2;go_loopw [8] (λ i wr=>∃ k:Nat,1<=k/\(k<=x.l.length\/k=1)/\i = aa ab k/\EG w1 wr/\(am (k - 1)).any (yC x.l)=false) (λ i _=>x.l.length - (intOf i).toNat)
   case atStart=>exact⟨1,al _,.inr rfl,rfl,Below.refl _ _,rfl⟩
   case round =>
    obtain⟨q,j,H,rfl,g,f⟩:=hrel;have d:=qh f;clear f
    replace c3:=Below.cell_of g c3
    clear L N S
    replace hb:=hb.trans (g.mono hb.size)
    by_cases hl3:q<x.l.length
    .obtain⟨J,u,rfl,_,o,B⟩:=((s.more h).below hb).at_ hl3;obtain⟨Q,v,K,_,I,M⟩:=((s.more h).below hb).at_ (show q - 1<x.l.length by omega);obtain rfl:J=Q:=by injection K
     obtain⟨_,rfl⟩:=kD _ _ _ _ o;obtain⟨_,rfl⟩:=kD _ _ _ _ I;clear o I K s;by_cases b1:x.l[q]<=x.l[q - 1]
     .have a:=qh (WX j hl3 b1);go_wp2;go_quiet (fail);go_wp2;go_ret;exact⟨ai (by rw[C.o,if_pos a.o]),hb.drewN _⟩
     have n:=qh (TZ j hl3 b1 d.o);go_wp2;go_quiet (fail);go_wp2;go_roundw
     case rel=>exact⟨q+1,by omega,by omega,by go_num,g.drewN _,n.o⟩
     case measure=>simp[intOf];omega
    have R:=qh (show di x=0 by rw[C.o,if_neg (by rw[Ua j (by omega) H d.o];simp)]);clear C d;go_wp2;go_ret;exact⟨ai (by rw[R.o]),hb⟩
end Go.Proofs.YtcnagconagpkcaaGreatDoor
namespace Go.Proofs.YtcnagconagpkcaaGreatDoor
inductive Ex where
 | mk (k op:Int) (nm:ByteArray) (v:Val) (ar:List Ex)
def Ex.k:Ex->Int | .mk k _ _ _ _=>k
def Ex.op:Ex->Int | .mk _ op _ _ _=>op
def Ex.nm:Ex->ByteArray | .mk _ _ nm _ _=>nm
def Ex.v:Ex->Val | .mk _ _ _ v _=>v
def Ex.ar:Ex->List Ex | .mk _ _ _ _ ar=>ar
mutual
def Ex.parts:Ex->Nat
 | .mk _ _ _ _ ar=>aI ar+1
def aI:List Ex->Nat
 | []=>0
 | a :: r=>a.parts+aI r
end
mutual
def Ex.depth:Ex->Nat
 | .mk _ _ _ _ ar=>nK ar+1
def nK:List Ex->Nat
 | []=>0
 | a :: r=>max a.depth (nK r)
end
theorem parts_eq (e:Ex):e.parts=aI e.ar+1:=by cases e;rw[Ex.parts];rfl
theorem WY (e:Ex):e.depth=nK e.ar+1:=by cases e;rw[Ex.depth];rfl
mutual
theorem Ex.afX {P:Ex->Prop} (h:∀ k op nm v ar,(∀ a∈ar,P a)->P (.mk k op nm v ar)):∀ e,P e
 | .mk k op nm v ar=>h k op nm v ar (Ex.acX h ar)
theorem Ex.acX {P:Ex->Prop} (h:∀ k op nm v ar,(∀ a∈ar,P a)->P (.mk k op nm v ar)):∀ ar:List Ex,∀ a∈ar,P a
 | []=>λ _ c=>by cases c
 | b :: r=>λ a c=>by
  rcases aq.1 c with e | e
  .rw[e];exact Ex.afX h b
  .exact Ex.acX h r a e
end
theorem Ex.ind {P:Ex->Prop} (e:Ex) (h:∀ e:Ex,(∀ a∈e.ar,P a)->P e):P e:=Ex.afX (λ k op nm v ar b=>h (.mk k op nm v ar) b) e
theorem yD {a:Ex}:∀ {ar:List Ex},a∈ar->a.parts<=aI ar
 | b :: r,h=>by
  rw[aI];rcases aq.1 h with e | e
  .rw[e];omega
  .have:=yD e;omega
theorem Ub (e:Ex):0<e.parts:=by rw[parts_eq];omega
theorem Be:∀ ar:List Ex,ar.length<=aI ar
 | []=>ap _
 | a :: r=>by
  have:=Be r;have:=Ub a;rw[aI,List.length_cons];omega
mutual
def Ex.meas:Ex->Nat->Nat × Nat->Nat × Nat
 | .mk _ _ _ _ ar,lv,s=>if 300<s.1+1\/20<lv then (s.1+1,max s.2 lv) else fH ar (lv+1) (s.1+1,max s.2 lv)
def fH:List Ex->Nat->Nat × Nat->Nat × Nat
 | [],_,s=>s
 | a :: r,lv,s=>fH r lv (a.meas lv s)
end
theorem zu (e:Ex) (lv:Nat) (s:Nat × Nat):e.meas lv s=if 300<s.1+1\/20<lv then (s.1+1,max s.2 lv) else fH e.ar (lv+1) (s.1+1,max s.2 lv):=by cases e;rw[Ex.meas];rfl
def bad (s:Nat × Nat):Prop:=300<s.1\/20<s.2
theorem LY {ar:List Ex} {lv:Nat} (h:∀ a∈ar,∀ s:Nat × Nat,s.1<=(a.meas lv s).1/\s.2<=(a.meas lv s).2):∀ s:Nat × Nat,s.1<=(fH ar lv s).1/\s.2<=(fH ar lv s).2:=by
 induction ar with
 | nil=>intro s;exact⟨al _,al _⟩
 | cons a r ih =>
  intro s;have d:=h a (aD ..) s;have e:=ih (λ b c=>h b (aE _ c)) (a.meas lv s);rw[fH];omega
theorem RU (e:Ex):∀ lv (s:Nat × Nat),s.1<=(e.meas lv s).1/\s.2<=(e.meas lv s).2/\lv<=(e.meas lv s).2:=by
 induction e using Ex.ind with
 | h e ih =>
  intro lv s;rw[zu];split
  .exact⟨by show s.1<=s.1+1;omega,by show s.2<=max s.2 lv;omega,by show lv<=max s.2 lv;omega⟩
  .have:=LY (lv:=lv+1) (λ a b s=>⟨(ih a b (lv+1) s).1,(ih a b (lv+1) s).2.1⟩) (s.1+1,max s.2 lv);simp only at this;omega
theorem WZ {s t:Nat × Nat} (h:bad s) (a:s.1<=t.1) (b:s.2<=t.2):bad t:=by unfold bad at *;omega
theorem LZ {lv:Nat}:∀ {ar:List Ex},(∀ a∈ar,∀ s:Nat × Nat,(¬ bad (s.1+a.parts,max s.2 (lv+a.depth))->a.meas (lv+1) s=(s.1+a.parts,max s.2 (lv+a.depth)))/\(bad (s.1+a.parts,max s.2 (lv+a.depth))->bad (a.meas (lv+1) s))) ->
  ∀ s:Nat × Nat,lv<=s.2->(¬ bad (s.1+aI ar,max s.2 (lv+nK ar))->fH ar (lv+1) s=(s.1+aI ar,max s.2 (lv+nK ar)))/\(bad (s.1+aI ar,max s.2 (lv+nK ar))->bad (fH ar (lv+1) s))
 | [],_,s,hs=>by
  rw[fH,aI,nK];have e:(s.1+0,max s.2 (lv+0))=s:=Prod.ext (by simp) (by simp;omega);rw[e];exact⟨λ _=>rfl,id⟩
 | a :: r,h,s,hs=>by
  rw[fH,aI,nK];obtain⟨g,i⟩:=h a (aD ..) s;have e:(s.1+(a.parts+aI r),max s.2 (lv+max a.depth (nK r)))=((s.1+a.parts,max s.2 (lv+a.depth)).1+aI r,max (s.1+a.parts,max s.2 (lv+a.depth)).2 (lv+nK r)):=
   Prod.ext (by simp;try omega) (by simp;try omega)
  by_cases c:bad (s.1+a.parts,max s.2 (lv+a.depth))
  .have j:=i c;have d:=LY (ar:=r) (lv:=lv+1) (λ b _ s=>⟨(RU b (lv+1) s).1,(RU b (lv+1) s).2.1⟩) (a.meas (lv+1) s);refine⟨λ f=>absurd (WZ c (by show _<=s.1+(a.parts+aI r);simp;try omega) (by show _<=max s.2 (lv+max a.depth (nK r));simp;try omega)) f,λ _=>WZ j d.1 d.2⟩
  .have k:=LZ (λ b c=>h b (aE _ c)) (s.1+a.parts,max s.2 (lv+a.depth)) (by show lv<=max s.2 (lv+a.depth);omega);rw[g c,e];exact k
theorem aaV (e:Ex):∀ lv (s:Nat × Nat),(¬ bad (s.1+e.parts,max s.2 (lv+e.depth))->e.meas (lv+1) s=(s.1+e.parts,max s.2 (lv+e.depth)))/\(bad (s.1+e.parts,max s.2 (lv+e.depth))->bad (e.meas (lv+1) s)):=by
 induction e using Ex.ind with
 | h e ih =>
  intro lv s;rw[zu,parts_eq,WY];have b:=LZ (lv:=lv+1) (λ a d s=>ih a d (lv+1) s) (s.1+1,max s.2 (lv+1)) (by simp;omega);have f:(s.1+(aI e.ar+1),max s.2 (lv+(nK e.ar+1)))=((s.1+1,max s.2 (lv+1)).1+aI e.ar,max (s.1+1,max s.2 (lv+1)).2 (lv+1+nK e.ar)):=Prod.ext (by simp;omega) (by simp;omega);rw[f];split
  .rename_i g;refine⟨λ c=>absurd ?_ c,λ _=>?_⟩
   .unfold bad;simp;omega
   .unfold bad;simp;omega
  .exact b
theorem Xa (e:Ex):bad (e.meas 1 (0,0)) ↔ 300<e.parts\/20<e.depth:=by
 have h:=aaV e 0 (0,0);have a:((0,0):Nat × Nat).1+e.parts=e.parts:=by simp
 have b:max ((0,0):Nat × Nat).2 (0+e.depth)=e.depth:=by simp
 rw[a,b] at h;by_cases hb:bad (e.parts,e.depth)
 .exact⟨λ _=>hb,λ _=>h.2 hb⟩
 .rw[h.1 hb];exact Iff.rfl
def bH:List (List UInt8):=[[97,110,100],[111,114],[110,111,116],[105,110],[104,97,115],[109,111,100],[116,114,117,101],[102,97,108,115,101]]
def pX (c:UInt8):Bool:=decide (97<=c.toNat) && decide (c.toNat<=122)
def gY (c:UInt8):Bool:=pX c || (decide (48<=c.toNat) && decide (c.toNat<=57)) || decide (c.toNat=95)
def bz (s:List UInt8):Bool:=!decide (s = []) && decide (s.length<=16) && (match s with | c :: _=>pX c | []=>false) && !bH.contains s && s.all gY
def tC (v:Val):Bool:=decide (v.k=0) && decide (v.n=0) && decide (v.s.toList = []) && decide (v.l = [])
def jL (op:Int):Nat × Nat:=
 if op=2\/op=3\/op=24\/op=25 then (2,1099511627776) else if op=26 then (3,3) else
 if op=1\/(12<=op/\op<=14)\/(20<=op/\op<=23)\/(28<=op/\op<=30)\/(34<=op/\op<=36) then (1,1) else
 if 1<=op/\op<=39 then (2,2) else (0,0)
def L8 (l:List Ex):Int:=match l with
 | a :: _=>a.k
 | []=>0
def dY (k op:Int) (nm:ByteArray) (v:Val) (n:Nat):Bool:=
 if (k≠1/\tC v=false)\/(¬ (k=4\/k=5)/\(op≠0\/0<n))\/(¬ (k=2\/k=3\/k=5)/\nm.toList≠[]) then true else
 if k=5 then !decide (n=1) else decide (k=4) && (decide (n<(jL op).1) || decide ((jL op).2<n))
def Et (k op:Int) (nm:ByteArray) (v:Val) (n:Nat) (hk:Int):Int:=
 if bu k 1 5=true then 4 else if k=4/\bu op 1 39=true then 4 else if k=5/\bu op 1 6=true then 4 else
 if dY k op nm v n=true then 3 else
 if k=1 then (if v.k=0\/v.k=1 then 4 else di v) else
 if k=4 then (if 12<=op/\op<=14/\hk≠2 then 3 else 0) else
 if bz nm.data.toList=true then 0 else 5
def jV (e:Ex):Int:=Et e.k e.op e.nm e.v e.ar.length (L8 e.ar)
mutual
def Ex.fault:Ex->Int
 | .mk k op nm v ar=>if jV (.mk k op nm v ar)≠0 then jV (.mk k op nm v ar) else nM ar
def nM:List Ex->Int
 | []=>0
 | a :: r=>if a.fault≠0 then a.fault else nM r
end
theorem Eu (e:Ex):e.fault=if jV e≠0 then jV e else nM e.ar:=by cases e;rw[Ex.fault];rfl
def dZ (e:Ex):Int:=if 300<e.parts\/20<e.depth then 2 else e.fault
theorem tH {e:Ex} (h:e.fault=0):jV e=0:=by
 rw[Eu] at h;split at h
 .rename_i a;exact absurd h a
 .rename_i a;exact Decidable.not_not.1 a
theorem Ew:∀ {l:List Ex},nM l=0->∀ a∈l,a.fault=0
 | b :: r,h,a,ha=>by
  rw[nM] at h;split at h
  .rename_i c;exact absurd h c
  .rename_i c;rcases aq.1 ha with e | e
   .rw[e];exact Decidable.not_not.1 c
   .exact Ew h a e
theorem xq {e:Ex} (h:e.fault=0):∀ a∈e.ar,a.fault=0:=by
 have b:=tH h;rw[Eu,if_neg (by rw[b];decide)] at h;exact Ew h
structure PM (e:Ex):Prop where
 k:1<=e.k/\e.k<=5
 c:e.k=1->2<=e.v.k/\e.v.k<=7
 a0:e.k=1\/e.k=2\/e.k=3->e.ar = []
 op4:e.k=4->1<=e.op/\e.op<=39
 op5:e.k=5->1<=e.op/\e.op<=6
 a4:e.k=4->(jL e.op).1<=e.ar.length/\e.ar.length<=(jL e.op).2
 a5:e.k=5->e.ar.length=1
theorem tJ {a b k:Int} (h:bu k a b=false):a<=k/\k<=b:=by
 unfold bu at h;simp at h;omega
theorem lQ {e:Ex} (h:jV e=0):PM e:=by
 unfold jV Et at h;by_cases c1:bu e.k 1 5=true
 .rw[if_pos c1] at h;exact absurd h (by decide)
 rw[if_neg c1] at h;by_cases c2:e.k=4/\bu e.op 1 39=true
 .rw[if_pos c2] at h;exact absurd h (by decide)
 rw[if_neg c2] at h;by_cases c3:e.k=5/\bu e.op 1 6=true
 .rw[if_pos c3] at h;exact absurd h (by decide)
 rw[if_neg c3] at h;by_cases c4:dY e.k e.op e.nm e.v e.ar.length=true
 .rw[if_pos c4] at h;exact absurd h (by decide)
 rw[if_neg c4] at h;have d:=tJ (an _▸c1);unfold dY at c4;split at c4
 .exact absurd rfl c4
 rename_i b;refine⟨d,λ a=>?_,λ a=>?_,λ a=>?_,λ a=>?_,λ a=>?_,λ a=>?_⟩
 .rw[if_pos a] at h;split at h
  .exact absurd h (by decide)
  .rename_i f;unfold di at h;split at h
   .exact absurd h (by decide)
   .rename_i c;have:=tJ (an _▸c);omega
 .refine List.eq_nil_of_length_eq_zero ?_;by_cases h0:0<e.ar.length
  .exact absurd (Or.inr (Or.inl ⟨by omega,Or.inr h0⟩)) b
  .omega
 .exact tJ (an _▸λ q=>c2 ⟨a,q⟩)
 .exact tJ (an _▸λ q=>c3 ⟨a,q⟩)
 .rw[if_neg (by omega)] at c4;simp[a] at c4;exact c4
 .rw[if_pos a] at c4;simpa using c4
end Go.Proofs.YtcnagconagpkcaaGreatDoor
namespace Go.Proofs.YtcnagconagpkcaaGreatDoor
open Go.RowKit
def az (e:Ex) (A:Option Addr) (c:Nat) (A':Option Addr) (c':Nat):List Value:=
 [aa ab e.k,aa ab e.op,ac e.nm,aa ab e.v.k,aa ab e.v.n,ac e.v.s,ae A e.v.l.length c,ae A' e.ar.length c']
abbrev BF (k o:Int) (s:ByteArray) (v:Val) (A:Option Addr) (c:Nat) (B:Option Addr) (m d:Nat):Array Value:=#[aa ab k,aa ab o,ac s,aa ab v.k,aa ab v.n,ac v.s,ae A v.l.length c,ae B m d]
abbrev BC (e:Ex) (A:Option Addr) (c:Nat) (B:Option Addr) (m d:Nat):Array Value:=#[aa ab e.k,aa ab e.op,ac e.nm,aa ab e.v.k,aa ab e.v.n,ac e.v.s,ae A e.v.l.length c,ae B m d]
inductive aQ (w:World) (B:Nat):Ex->List Value->Prop
 | mk {e:Ex} {A:Option Addr} {c:Nat} {A':Option Addr} {c':Nat} {cs:List Value} (hn:e.nm.size<=maxLen) (hs:e.v.s.size<=maxLen) (hl:e.v.l.length<=maxLen) (ha:e.ar.length<=maxLen)
   (hx:Reads w B 1 A e.v.l.length (bF ab e.v.l)) (hr:Reads w B 8 A' e.ar.length cs) (hi:∀ i (h:i<e.ar.length),aQ w B e.ar[i] ((cs.drop (i*8)).take 8)):aQ w B e (az e A c A' c')
theorem aQ.keep {w w':World} {B:Nat} {e:Ex} {cs:List Value} (h:aQ w B e cs) (a:Below B w w'):aQ w' B e cs:=by
 induction h with
 | mk hn hs hl ha hx hr hi ih=>exact .mk hn hs hl ha (hx.below a) (hr.below a) ih
theorem aQ.up {w:World} {B B':Nat} {e:Ex} {cs:List Value} (h:aQ w B e cs) (a:B<=B'):aQ w B' e cs:=by
 induction h with
 | mk hn hs hl ha hx hr hi ih=>exact .mk hn hs hl ha (hx.more a) (hr.more a) ih
theorem aQ.arg {w:World} {B:Nat} {e:Ex} {A':Option Addr} {cs:List Value} (d:Reads w B 8 A' e.ar.length cs) (f:∀ i (h:i<e.ar.length),aQ w B e.ar[i] ((cs.drop (i*8)).take 8)) {i:Nat} (h:i<e.ar.length) :
  ∃ ad b,A'=some ad/\ad.block<B/\aQ w B e.ar[i] b/\∀ j u,b[j]?=some u->w.cell? ((ad.add (i*8)).add j)=some u:=by
 obtain⟨ad,rfl,g,c⟩:=d.2 (by omega);refine⟨ad,_,rfl,g,f i h,λ j u a=>?_⟩;rw[kC];refine c _ u ?_;rw[List.getElem?_take] at a;split at a
 .rw[aw] at a;exact a
 .cases a
theorem CX (a:Ex):∀ l:List Ex,aI (l ++ [a])=aI l+a.parts
 | []=>by simp[aI]
 | b :: r=>by rw[List.cons_append,aI,aI,CX a r];omega
theorem Mc (l:List Ex):∀ k,aI (l.take k)<=aI l:=by
 induction l with
 | nil=>intro k;simp[aI]
 | cons a r ih =>
  intro k;cases k with
  | zero=>simp[aI]
  | succ k=>rw[List.take_succ_cons,aI,aI];have:=ih k;omega
end Go.Proofs.YtcnagconagpkcaaGreatDoor
