/- Lemmas. -/
import Derived.Test.YtcnagconagpkcaaGreatDoorProg
import Derived.WalkKit
import Derived.WalkSpells
import Derived.WalkLawsBesides
import Derived.Lib.Hide
import Derived.Deep.AppendLies
import Derived.Deep.Draws
import Derived.Deep.QuietTactic
import Derived.BigQuiet
import Derived.Laws.OwnMore
import Derived.Laws.Rows
import Derived.Shelf.Strings.Builder1
import Derived.Deep.DeepCutAuto
import Derived.Deep.Light
import Derived.Outline
set_option maxHeartbeats 2000000
set_option maxRecDepth 100000
theorem Go.RowKit.Hid.o {p:Prop} (h:Go.RowKit.Hid p):p:=h
open Go.Value renaming int->am, string->ao, slice->ap, pointer->aq, bool->av, ownBlock->be
open Go.IntKind renaming i64->an
open Go.Ending renaming returned->aw, returned->aR
open Nat renaming le_refl->ax, zero_le->aD, lt_or_ge->bd, le_trans->br
open List renaming range->ay, mem_cons->aL, mem_cons_self->a9, mem_cons_of_mem->ba, getElem?_eq_getElem->bb, getElem?_drop->bc, length_pos_iff->bi, any_eq_true->bj, getElem_mem->bk, take_succ_eq_append_getElem->bl, any_append->bm, take_of_length_le->bn, cons_append->bp, take_succ_cons->bq
open Go.Lib renaming cell_of_heap->aE, IsBuilder->bf, BuilderAt->bg, strCells->bh
open Bool renaming not_eq_true->aM, or_eq_false_iff->a8, beq_eq_decide_eq->bo
namespace Go.Proofs.YtcnagconagpkcaaGreatDoor
open Go.RowKit
abbrev IY (w w':World):Prop:=Below w.heap.size w w'
abbrev IE (f:FuncId) (a:Array Value) (w:World) (v:Value):Prop:=Calls Tryz.prog f a w λ e w'=>e = aw v/\Below w.heap.size w w'
abbrev KG (f:FuncId) (a:Array Value) (w:World) (v:Value):Prop:=Calls Tryz.prog f a w λ e w'=>e = aw v/\w=w'
abbrev LD (f:FuncId) (a:Array Value) (w:World) (v:Value):Prop:=Calls Tryz.prog f a w λ e w'=>e = aw v/\w'=w
abbrev KW (f:FuncId) (a:Array Value) (w:World) (v:Value) (W:World):Prop:=Calls Tryz.prog f a w λ e w'=>e = aw v/\Below W.heap.size W w'
theorem Cm {w:World} {p:Addr} {a0 a1 a2 a3 a4 a5 a6 a7:Value} {r:List Value} (h:∀ j u,(a0::a1::a2::a3::a4::a5::a6::a7::r)[j]?=some u->w.cell? (p.add j)=some u):w.cell? p=some a0/\w.cell? ⟨p.block,p.off+1,none⟩=some a1/\w.cell? ⟨p.block,p.off+2,none⟩=some a2/\w.cell? ⟨p.block,p.off+3,none⟩=some a3/\w.cell? ⟨p.block,p.off+4,none⟩=some a4/\w.cell? ⟨p.block,p.off+5,none⟩=some a5/\w.cell? ⟨p.block,p.off+6,none⟩=some a6/\w.cell? ⟨p.block,p.off+7,none⟩=some a7:=⟨h 0 _ rfl,h 1 _ rfl,h 2 _ rfl,h 3 _ rfl,h 4 _ rfl,h 5 _ rfl,h 6 _ rfl,h 7 _ rfl⟩
theorem H7 {w:World} {p:Addr} {a0 a1:Value} {r:List Value} (h:∀ j u,(a0::a1::r)[j]?=some u->w.cell? (p.add j)=some u):w.cell? p=some a0/\w.cell? ⟨p.block,p.off+1,none⟩=some a1:=⟨h 0 _ rfl,h 1 _ rfl⟩
theorem IC {w:World} {p:Addr} {a0 a1 a2:Value} {r:List Value} (h:∀ j u,(a0::a1::a2::r)[j]?=some u->w.cell? (p.add j)=some u):w.cell? p=some a0/\w.cell? ⟨p.block,p.off+1,none⟩=some a1/\w.cell? ⟨p.block,p.off+2,none⟩=some a2:=⟨h 0 _ rfl,h 1 _ rfl,h 2 _ rfl⟩
structure Later (W:World) where
 w:World
 h:IY W w
instance (W:World):Inhabited (Later W):=⟨⟨W,Below.refl _ _⟩⟩
theorem aF {P:Program} {id:Nat} {Q:Exit->Act->World->Prop} {a:Act} {w:World} {l:List Oper} (c:P.follows .mixedOrders=true) (d:Region.lexB .any l.toArray=true)
  (h:wpQuiet P l.toArray (λ w'=>∃ p:Later w,w'=p.w) (λ b=>∀ w',(∃ p:Later w,w'=p.w)->Q .normal b w') l a):(Code.region id l.toArray true).wp P Q a w:=
 wp_region_quiet (C:=λ w'=>∃ p:Later w,w'=p.w) c d ⟨⟨w.drew,(Below.refl _ _).drew⟩,rfl⟩ (by simpa using h)
theorem Later.call {P:Program} {f:FuncId} {args:Array Value} {W:World} {v:Value} (h:∀ w',IY W w'->Calls P f args w' λ e a=>e = aw v/\IY w' a) :
  ∀ p:Later W,Calls P f args p.w λ e a=>e = aw v/\∃ q:Later W,a=q.w:=
 λ p=>(h p.w p.h).mono λ _ _ ⟨b,c⟩=>⟨b,⟨⟨_,p.h.trans (c.mono p.h.size)⟩,rfl⟩⟩
theorem Later.cell {W:World} {a:Addr} {v:Value} (h:W.cell? a=some v) (p:Later W):p.w.cell? a=some v:=by
 rw[p.h.cell (block_lt_of_cell h)];exact h
theorem Below.cell_of {W w':World} {a:Addr} {v:Value} (h:IY W w') (b:W.cell? a=some v):w'.cell? a=some v:=by
 rw[h.cell (block_lt_of_cell b)];exact b
theorem ag {k:IntKind} {a b:Int} (h:a=b):aR (.int k a) = aw (.int k b):=by rw[h]
theorem au {a b:Bool} (h:a=b):aR (av a) = aw (av b):=by rw[h]
theorem bP {a b:Value} (h:a=b):aR a = aw b:=by rw[h]
theorem _root_.Go.RowKit.Below.drewN {B:Nat} {w w':World} (h:Below B w w') (n:Nat):Below B w (w'.drewN n):=⟨h.os,h.tape,h.output,h.size,h.block⟩
theorem jb {a b:ByteArray} (h:a=b):(a.toList == b.toList)=true:=by subst h;simp
theorem dE {a b:ByteArray} (h:a≠b):(a.toList == b.toList)=false:=by
 rw[ByteArray.toList_eq,ByteArray.toList_eq,beq_eq_false_iff_ne];intro e;exact h (ByteArray.ext (Array.toList_inj.1 e))
theorem adf {W a:World} (c:IY W a):(∀ b o,b<W.heap.size->a.cell? ⟨b,o,none⟩=W.cell? ⟨b,o,none⟩)/\(∀ b o,b<W.heap.size->a.frozen? ⟨b,o,none⟩=W.frozen? ⟨b,o,none⟩):=
 ⟨λ b o h=>c.cell (p:=⟨b,o,none⟩) h,λ b o h=>c.frozen (p:=⟨b,o,none⟩) h⟩
theorem iZ (a:Addr) (n:Nat):(a.add n).block=a.block:=by unfold Addr.add;split <;> rfl
theorem qf (a:Addr) (i j:Nat):(a.add i).add j=a.add (i+j):=by
 unfold Addr.add;by_cases hi:i=0 <;> by_cases hj:j=0 <;> simp[hi,hj,Nat.add_assoc]
def Reads (w:World) (B size:Nat) (A:Option Addr) (n:Nat) (xs:List Value):Prop:=
 xs.length=n*size/\(0<n->∃ ad,A=some ad/\ad.block<B/\∀ j u,xs[j]?=some u->w.cell? (ad.add j)=some u)
section
variable {w w':World} {B B' size n:Nat} {A:Option Addr} {xs:List Value}
theorem Reads.none_:Reads w B size A 0 []:=⟨by simp,λ h=>absurd h (by omega)⟩
theorem Reads.at_ {k:Nat} (h:Reads w B 1 A n xs) (d:k<n):∃ ad u,A=some ad/\ad.block<B/\xs[k]?=some u/\w.cell? (ad.add k)=some u:=by
 obtain⟨ad,e,b,c⟩:=h.2 (by omega);have a:k<xs.length:=by have:=h.1;omega
 exact⟨ad,xs[k],e,b,bb a,c k _ (bb a)⟩
theorem Reads.keep (h:Reads w B size A n xs) (b:∀ p:Addr,p.block<B->w'.cell? p=w.cell? p):Reads w' B size A n xs:=
 ⟨h.1,λ d=>by
  obtain⟨ad,e,a,f⟩:=h.2 d;exact⟨ad,e,a,λ j u c=>(b _ (by rw[iZ];exact a)).trans (f j u c)⟩⟩
theorem Reads.more (h:Reads w B size A n xs) (c:B<=B'):Reads w B' size A n xs:=
 ⟨h.1,λ a=>by
  obtain⟨ad,e,d,b⟩:=h.2 a;exact⟨ad,e,by omega,b⟩⟩
theorem Reads.below (h:Reads w B size A n xs) (b:Below B w w'):Reads w' B size A n xs:=h.keep λ _ a=>b.cell a
theorem Reads.drew (h:Reads w B size A n xs):Reads w.drew B size A n xs:=h
theorem Reads.drewN (h:Reads w B size A n xs) (k:Nat):Reads (w.drewN k) B size A n xs:=h
theorem Reads.alloc (h:Reads w B size A n xs) (b:B<=w.heap.size) (o:Obj):Reads (w.alloc o) B size A n xs:=h.keep λ p a=>World.cell?_alloc_lt w o p (by omega)
theorem Reads.setCell (h:Reads w B size A n xs) {p:Addr} (b:B<=p.block) (u:Value):Reads (w.setCell p u) B size A n xs:=
 h.keep λ q a=>World.cell?_setCell_other w p q u (λ e=>by subst e;omega)
theorem Reads.grown (h:Reads w B size A n xs) {row:Option Nat} (a:w.grownBy w' row) (d:B<=w.heap.size) (b:∀ g,row=some g->B<=g):Reads w' B size A n xs:=
 h.keep λ p c=>World.cell?_of_block (a.block p.block (by omega) (λ e=>by have:=b _ e.symm;omega))
theorem Reads.cut (h:Reads w B size A n xs) {k b:Nat} (f:k<=n) (e:n<=b) :
  Reads w B size (if b=k then A else A.map (·.add (k*size))) (n - k) (xs.drop (k*size)):=by
 refine⟨by rw[List.length_drop,h.1,Nat.sub_mul],λ g=>?_⟩;obtain⟨ad,rfl,c,a⟩:=h.2 (by omega);rw[if_neg (by omega)];refine⟨ad.add (k*size),rfl,by rw[iZ];exact c,λ j u d=>?_⟩;rw[qf];exact a _ u (by rw[<- d,bc])
theorem Reads.ig {base:Nat} {e:TypeId} {c:Nat} (h:w.ownsRow base e size (ap A n c) n xs):Reads w w.heap.size size A n xs:=by
 refine⟨h.1,λ i=>?_⟩;obtain⟨g,f,b,_,a⟩:=h.form i;have d:A=some ⟨g,0,none⟩:=by injection b
 subst d;exact⟨_,rfl,a,h.cells (g:=g) rfl⟩
end
def ah (w:World) (g:Nat) (t:TypeId) (cs:Array Value):Prop:=w.heap[g]?=some (.cells cs t (0,0))
section
variable {w w':World} {g:Nat} {t:TypeId} {cs:Array Value}
theorem ah.lt (h:ah w g t cs):g<w.heap.size:=by
 rcases bd g w.heap.size with a | b
 .exact a
 .unfold ah at h;rw[Array.getElem?_eq_none b] at h;cases h
theorem ah.cell (h:ah w g t cs) (i:Nat):w.cell? ⟨g,i,none⟩=cs[i]?:=cell_of_row w g i cs t (0,0) h
theorem ah.frozen (h:ah w g t cs) (i:Nat):w.frozen? ⟨g,i,none⟩=false:=by
 unfold ah at h;simp[World.frozen?,h]
theorem qh {p:Prop} (h:p):Hid p:=Lib.hid h
theorem fA {c d a:UInt8} {z:Int} {n:Nat} (i:a=c) (h:¬ c=d) (f:((d.toNat:Nat):Int)=z) (g:d.toNat=n):((a.toNat:Int) == z)=false/\(a.toNat == n)=false:=by
 subst i f g;have b:a.toNat≠d.toNat:=λ e=>h (UInt8.toNat_inj.1 e);constructor
 .rw[beq_eq_false_iff_ne];omega
 .rw[beq_eq_false_iff_ne];exact b
theorem aC {α:Sort _} (a:α):∃ x,x=a:=⟨_,rfl⟩
theorem af {α:Sort _} (a:α):∃ x,a=x:=⟨_,rfl⟩
abbrev ZB (w:World) (b:Nat):Prop:=ah w b 67 #[am an 0,am an 0,ao ⟨#[]⟩,am an 0,am an 0,ao ⟨#[]⟩,ap none 0 0,ap none 0 0]
theorem ah.c2 {w:World} {b:Nat} {T:TypeId} {a a1:Value} (h:ah w b T #[a,a1]):w.cell? ⟨b,0,none⟩=some a/\w.cell? ⟨b,1,none⟩=some a1:=⟨h.cell 0,h.cell 1⟩
theorem ah.z2 {w:World} {b:Nat} {T:TypeId} {a c:Value} (h:ah w b T #[a,c]):w.cell? ⟨b,0,none⟩=some a/\w.frozen? ⟨b,0,none⟩=false/\w.cell? ⟨b,1,none⟩=some c/\w.frozen? ⟨b,1,none⟩=false:=⟨h.cell 0,h.frozen 0,h.cell 1,h.frozen 1⟩
theorem ah.c4 {w:World} {b:Nat} {T:TypeId} {c d a a3:Value} (h:ah w b T #[c,d,a,a3]):w.cell? ⟨b,0,none⟩=some c/\w.cell? ⟨b,1,none⟩=some d/\w.cell? ⟨b,2,none⟩=some a/\w.cell? ⟨b,3,none⟩=some a3:=⟨h.cell 0,h.cell 1,h.cell 2,h.cell 3⟩
theorem ah.z4 {w:World} {b:Nat} {T:TypeId} {d e c a:Value} (h:ah w b T #[d,e,c,a]):w.cell? ⟨b,0,none⟩=some d/\w.frozen? ⟨b,0,none⟩=false/\w.cell? ⟨b,1,none⟩=some e/\w.frozen? ⟨b,1,none⟩=false/\w.cell? ⟨b,2,none⟩=some c/\w.frozen? ⟨b,2,none⟩=false/\w.cell? ⟨b,3,none⟩=some a/\w.frozen? ⟨b,3,none⟩=false:=⟨h.cell 0,h.frozen 0,h.cell 1,h.frozen 1,h.cell 2,h.frozen 2,h.cell 3,h.frozen 3⟩
theorem ah.c8 {w:World} {b:Nat} {T:TypeId} {g i f c a e d a7:Value} (h:ah w b T #[g,i,f,c,a,e,d,a7]):w.cell? ⟨b,0,none⟩=some g/\w.cell? ⟨b,1,none⟩=some i/\w.cell? ⟨b,2,none⟩=some f/\w.cell? ⟨b,3,none⟩=some c/\w.cell? ⟨b,4,none⟩=some a/\w.cell? ⟨b,5,none⟩=some e/\w.cell? ⟨b,6,none⟩=some d/\w.cell? ⟨b,7,none⟩=some a7:=⟨h.cell 0,h.cell 1,h.cell 2,h.cell 3,h.cell 4,h.cell 5,h.cell 6,h.cell 7⟩
theorem ah.z8 {w:World} {b:Nat} {T:TypeId} {i j g c a f e d:Value} (h:ah w b T #[i,j,g,c,a,f,e,d]):w.cell? ⟨b,0,none⟩=some i/\w.frozen? ⟨b,0,none⟩=false/\w.cell? ⟨b,1,none⟩=some j/\w.frozen? ⟨b,1,none⟩=false/\w.cell? ⟨b,2,none⟩=some g/\w.frozen? ⟨b,2,none⟩=false/\w.cell? ⟨b,3,none⟩=some c/\w.frozen? ⟨b,3,none⟩=false/\w.cell? ⟨b,4,none⟩=some a/\w.frozen? ⟨b,4,none⟩=false/\w.cell? ⟨b,5,none⟩=some f/\w.frozen? ⟨b,5,none⟩=false/\w.cell? ⟨b,6,none⟩=some e/\w.frozen? ⟨b,6,none⟩=false/\w.cell? ⟨b,7,none⟩=some d/\w.frozen? ⟨b,7,none⟩=false:=⟨h.cell 0,h.frozen 0,h.cell 1,h.frozen 1,h.cell 2,h.frozen 2,h.cell 3,h.frozen 3,h.cell 4,h.frozen 4,h.cell 5,h.frozen 5,h.cell 6,h.frozen 6,h.cell 7,h.frozen 7⟩
theorem ah.new (w:World) (t:TypeId) (cs:Array Value):ah (w.alloc (.cells cs t)) w.heap.size t cs:=heap_alloc_new w _
theorem ah.drew (h:ah w g t cs):ah w.drew g t cs:=h
theorem ah.drewN (h:ah w g t cs) (n:Nat):ah (w.drewN n) g t cs:=h
theorem ah.alloc (h:ah w g t cs) (o:Obj):ah (w.alloc o) g t cs:=(Below.heap_alloc w o g h.lt).trans h
theorem ah.eG (h:ah w g t cs) (i:Nat) (u:Value):ah (w.setCell ⟨g,i,none⟩ u) g t (cs.setIfInBounds i u):=by
 unfold ah at h ⊢;simp[World.setCell,Array.getElem?_modify,h]
theorem dW {w a:World} {T:TypeId} {i g f j:Value} (B:ah a w.heap.size T #[i,g,f,j]) (h:IY w a) (d e c b:Value):∃ W,W=(((a.setCell ⟨w.heap.size,0,none⟩ d).setCell ⟨w.heap.size,1,none⟩ e).setCell ⟨w.heap.size,2,none⟩ c).setCell ⟨w.heap.size,3,none⟩ b/\ah W w.heap.size T #[d,e,c,b]/\IY w W:=
 ⟨_,rfl,((((B.eG 0 _).eG 1 _).eG 2 _).eG 3 _),((((h.setCell (p:=⟨w.heap.size,0,none⟩) (ax _) _).setCell (p:=⟨w.heap.size,1,none⟩) (ax _) _).setCell (p:=⟨w.heap.size,2,none⟩) (ax _) _).setCell (p:=⟨w.heap.size,3,none⟩) (ax _) _)⟩
theorem ah.far (h:ah w g t cs) {p:Addr} (a:g≠p.block) (u:Value):ah (w.setCell p u) g t cs:=(Below.heap_setCell w p u g a).trans h
theorem ah.below {B:Nat} (h:ah w g t cs) (b:Below B w w') (a:g<B):ah w' g t cs:=(b.block g a).trans h
theorem ah.grown {row:Option Nat} (h:ah w g t cs) (a:w.grownBy w' row) (b:some g≠row):ah w' g t cs:=(a.block g h.lt b).trans h
theorem ah.ne_ {g':Nat} {d:TypeId} {b:Array Value} (h:ah w g t cs) (a:ah w g' d b) (c:t≠d):g≠g':=by
 rintro rfl;unfold ah at h a;rw[h] at a;injection a with a;injection a with _ ht;exact c ht
theorem qg {base:Nat} {e:TypeId} {size n:Nat} {v:Value} {xs:List Value} (h:w.ownsRow base e size v n xs) (d:ah w g t cs) (a:e≠t):v.ownBlock≠some g:=by
 rcases h.2 with ⟨rfl,_⟩ | ⟨f,j,c,rfl,_,b,_⟩
 .simp[be]
 .intro i;have:f=g:=by simpa [be] using i
  subst this;exact ah.ne_ (t:=e) b d a rfl
end
theorem Nc:∃ i,Tryz.prog.info? 220=some i/\i.size=2:=by
 have h:(Tryz.prog.info? 220).map (·.size)=some 2:=by kernel_rfl
 exact Option.map_eq_some_iff.1 h
theorem ET (b:Nat) (w:World) (c:w.cell? ⟨b,0,none⟩=some (aq (some ⟨b,0,none⟩))) :
  LD 183 #[aq (some ⟨b,0,none⟩)] w (.tuple #[]):=by
 obtain⟨j,a,_⟩:=Nc;go_enter Tryz.func183,Tryz.ntmps183;go_wp2;rw[Lib.run_neq_ptr_same w _ Tryz.underlying217 a];go_wp2;go_end0;exact⟨rfl,rfl⟩
theorem Ei (b:Nat) (w:World) (g:w.cell? ⟨b,0,none⟩=some (aq none)) (a:w.shape? b=some (220,2)) (f:w.frozen? ⟨b,0,none⟩=false) :
  Calls Tryz.prog 183 #[aq (some ⟨b,0,none⟩)] w λ e w'=>e = aw (.tuple #[])/\w'=w.setCell ⟨b,0,none⟩ (aq (some ⟨b,0,none⟩)):=by
 obtain⟨j,d,c⟩:=Nc;go_enter Tryz.func183,Tryz.ntmps183;go_wp2;rw[Lib.run_to_unsafe w ⟨b,0,none⟩ Tryz.underlying217 Tryz.underlying304 d (by rw[c];decide) a (Nat.zero_lt_succ 1)];simp only[Result.andThen];rw[Oper.upon_value];go_wp2;rw[run_callFunc_extern Tryz.func221 (by kernel_rfl) (by kernel_rfl) (by kernel_rfl) (e:=Extern.AbiNoEscape.same) (by kernel_rfl)];rw[Lib.run_noEscape];simp only[Result.andThen];rw[Oper.upon_value];go_wp2;rw[Lib.run_from_unsafe w ⟨b,0,none⟩ Tryz.underlying304 Tryz.underlying217 d a (by kernel_rfl)];simp only[Result.andThen];rw[Oper.upon_value];go_wp2;go_end0;exact⟨rfl,rfl⟩
theorem yH (B b:Nat) (a:List Value) (w:World) (h:bf 220 5 B b a w) :
  Calls Tryz.prog 183 #[aq (some ⟨b,0,none⟩)] w λ e w'=>e = aw (.tuple #[])/\(bg 220 5 B b (aq (some ⟨b,0,none⟩)) a w'/\Below B w w'):=by
 rcases h with h | h
 .refine (Ei b w h.cell0 h.shape h.frozen0).mono ?_;rintro e w' ⟨rfl,rfl⟩;exact⟨rfl,h.used _,(Below.refl B w).setCell (p:=⟨b,0,none⟩) h.1 _⟩
 .refine (ET b w h.cell0).mono ?_;rintro e w' ⟨rfl,rfl⟩;exact⟨rfl,h,Below.refl B _⟩
theorem infoByte:(Tryz.prog.info? 5).map (λ i=>(i.zero,i.size,i.bytes))=some (some (.int .u8 0),1,1):=by kernel_rfl
theorem vF (B b:Nat) (m:List Value) (s:ByteArray) (w:World) (h:bf 220 5 B b m w) (A:m.length+s.size<=140737488355328) (H:B<=w.heap.size) :
  Calls Tryz.prog 126 #[aq (some ⟨b,0,none⟩),ao s] w λ e w'=>e = aw (.tuple #[am an s.size,.nilIface])/\(bg 220 5 B b (aq (some ⟨b,0,none⟩)) (m ++ bh s) w'/\Below B w w'):=by
 obtain⟨G,L,y,u,r⟩:=info_parts infoByte;go_enter Tryz.func126,Tryz.ntmps126;go_wp2_with (refine (yH B b m _ h).mono ?_);rintro e n ⟨rfl,I,j⟩;obtain⟨D,v,f,i,t⟩:=I;have Q:n.cell? ⟨b,0,none⟩=some (aq (some ⟨b,0,none⟩)):=by rw[aE f];rfl
 have P:n.cell? ⟨b,1,none⟩=some v:=by rw[aE f];rfl
 go_wp2_with (at_builtin;refine Lib.wpList_append_own_string _ rfl _ _ 218 9 rfl B 5 G Tryz.underlying218 Tryz.underlying9 L y u r _ _ _ rfl i s rfl ?c3 ?c4 ?c5 ?_)
 case c3=>unfold maxLen;omega
 case c4=>omega
 case c5=>have:=j.size;omega
 intro F o a c _;have x:b<n.heap.size:=by
  rcases bd b n.heap.size with z | z
  .exact z
  .simp[Array.getElem?_eq_none z] at f
 have d:o.heap[b]?=some (.cells #[aq (some ⟨b,0,none⟩),v] 220 (0,0)):=by
  rw[c.block b x (λ e=>t e.symm)];exact f
 have O:o.cell? ⟨b,0,none⟩=some (aq (some ⟨b,0,none⟩)):=by rw[aE d];rfl
 have N:o.cell? ⟨b,1,none⟩=some v:=by rw[aE d];rfl
 have M:o.frozen? ⟨b,1,none⟩=false:=Lib.frozen_of_heap d 1;obtain⟨E,C,l,rfl⟩:∃ E C l,F = ap E C l:=by
  rcases a.2 with ⟨q,_⟩ | ⟨g,l,J,q,_⟩
  .exact⟨_,_,_,q⟩
  .exact⟨_,_,_,q⟩
 go_wp2;go_ret2;refine⟨rfl,?_,?_⟩
 .exact Lib.BuilderAt.put (T:=220) (e:=5) D d (bs':=m ++ bh s) (by simpa [Lib.strCells_length] using a) (by decide)
 .exact (j.grown c (by have:=j.size;omega) (λ k K=>(i.lt k K).1)).setCell (p:=⟨b,1,none⟩) D _
def oK (a b:Int):Int:=if a<b then -1 else if b<a then 1 else 0
theorem BU (a b:Int) (w:World) :
  KG 220 #[am an a,am an b] w (am an (oK a b)):=by
 go_enter Tryz.func220,Tryz.ntmps220;go_wp2
 all_goals (go_ret;exact⟨ag (by simp[oK, *] <;> omega),rfl⟩)
theorem EU (a b:Int) (w:World) :
  LD 220 #[am an a,am an b] w (am an (oK a b)):=(BU a b w).mono λ _ _ ⟨c,d⟩=>⟨c,d.symm⟩
def bI (k:IntKind) (l:List Int):List Value:=l.map (Value.int k)
theorem jm (κ:IntKind) (l:List Int) (k:Nat) (u:Value) (h:(bI κ l)[k]?=some u):∃ h:k<l.length,u = .int κ l[k]:=by
 unfold bI at h;rw[List.getElem?_map] at h;rcases hk:l[k]? with _ | x
 .rw[hk] at h;simp at h
 .rw[hk] at h;simp at h;obtain⟨b,a⟩:=List.getElem?_eq_some_iff.1 hk;exact⟨b,by rw[a,h]⟩
theorem qi (κ:IntKind) (l:List Int):(bI κ l).length=l.length:=by simp[bI]
structure Val where
 k:Int
 n:Int
 s:ByteArray
 l:List Int
abbrev BO (x:Val) (A:Option Addr) (c:Nat):Array Value:=#[am an x.k,am an x.n,ao x.s,ap A x.l.length c]
def aN (n lo hi:Int):Bool:=decide (n<lo) || decide (hi<n)
theorem mD {n a b:Int} (h:n<a\/b<n):aN n a b=true:=by simp[aN];omega
theorem lT {n a b:Int} (h:a<=n) (c:n<=b):aN n a b=false:=by simp[aN];omega
theorem aX (a b c:Int) (w:World) :
  KG 121 #[am an a,am an b,am an c] w (av (aN a b c)):=by
 by_cases h1:a<b
 .have d:=qh (mD (.inl h1):aN a b c=true);go_enter Tryz.func121,Tryz.ntmps121;go_wp2;go_ret;exact⟨au (by rw[d.o]),rfl⟩
 .by_cases h2:c<a
  .have d:=qh (mD (.inr h2):aN a b c=true);go_enter Tryz.func121,Tryz.ntmps121;go_wp2;go_ret;exact⟨au (by rw[d.o]),rfl⟩
  .have d:=qh (lT (by omega) (by omega):aN a b c=false);go_enter Tryz.func121,Tryz.ntmps121;go_wp2;go_ret;exact⟨au (by rw[d.o]),rfl⟩
theorem gU (a b c:Int) (w:World) :
  KG 86 #[am an a,am an b,am an c] w (av (!aN a b c)):=by
 by_cases h1:a<b
 .have d:=qh (mD (.inl h1):aN a b c=true);go_enter Tryz.func86,Tryz.ntmps86;go_wp2;go_ret;exact⟨au (by rw[d.o];simp;try omega),rfl⟩
 .by_cases h2:c<a
  .have d:=qh (mD (.inr h2):aN a b c=true);go_enter Tryz.func86,Tryz.ntmps86;go_wp2;go_ret;exact⟨au (by rw[d.o];simp;try omega),rfl⟩
  .have d:=qh (lT (by omega) (by omega):aN a b c=false);go_enter Tryz.func86,Tryz.ntmps86;go_wp2;go_ret;exact⟨au (by rw[d.o];simp;try omega),rfl⟩
def yV (k:Int):Int:=if k=1 then 1 else if k=2 then -999999999999999 else if k=4 then 1 else if k=6 then -25567 else 0
def yX (k:Int):Int:=if k=1 then 3 else if k=2 then 999999999999999 else if k=4 then 999 else if k=6 then 84005 else if k=7 then 1 else 0
theorem jF (k:Int) (w:World) :
  KG 180 #[am an k] w (.tuple #[am an (yV k),am an (yX k)]):=by
 go_enter Tryz.func180,Tryz.ntmps180;go_wp2
 all_goals (go_ret2;exact⟨bP (by simp_all[yV,yX]),rfl⟩)
def inB (k n:Int):Bool:=if k=1\/k=2\/k=4\/k=6\/k=7 then !aN n (yV k) (yX k) else true
theorem ja (k n:Int) (w:World) :
  KG 222 #[am an k,am an n] w (av (inB k n)):=by
 go_enter Tryz.func222,Tryz.ntmps222;go_wp2_with (go_at_call 86;refine (gU _ _ _ _).mono ?_;rintro e w' ⟨rfl,rfl⟩)
 all_goals (go_ret;exact⟨au (by simp_all[inB,yV,yX]),rfl⟩)
def Jg (k:Int):Bool:=!decide (k=0) && (!decide (k=3) && !decide (k=5))
def kU (x:Val):Bool:=(!Jg x.k && !decide (x.n=0)) || ((!decide (x.k=3) && !decide (x.s.toList = [])) || (!decide (x.k=5) && !decide (x.l = [])))
theorem EW (x:Val) (A:Option Addr) (c:Nat) (w:World) :
  Calls Tryz.prog 179 #[.agg (BO x A c)] w
   λ e w'=>e = aw (av (kU x))/\IY w w':=by
 go_enter Tryz.func179,Tryz.ntmps179;go_wp2
 all_goals (go_ret;exact⟨au (by simp_all[kU,Jg,bi]),(Below.refl _ _).alloc (ax _) _⟩)
theorem Ey {α:Type} {l:List α} {p:α->Bool} {k:Nat} (h:k<l.length) (a:p l[k]=true):l.any p=true:=bj.2 ⟨_,bk h,a⟩
theorem zX {α:Type} {l:List α} {p:α->Bool} {k:Nat} (h:k<l.length) (a:p l[k]=false) (b:(l.take k).any p=false):(l.take (k+1)).any p=false:=by
 rw[bl h,bm,b];simp[a]
theorem zY {α:Type} {l:List α} {p:α->Bool} {k:Nat} (h:l.length<=k) (a:(l.take k).any p=false):l.any p=false:=by
 rwa [bn h] at a
def badByte (c:UInt8):Bool:=decide ((c.toNat:Int)<32) || decide (126<(c.toNat:Int))
def BV (s:ByteArray):Bool:=s.data.toList.any badByte
def dP (c:Int):Bool:=aN c 1 999
def wO (l:List Int) (i:Nat):Bool:=decide (l.getD (i+1) 0<=l.getD i 0)
def kF (l:List Int):Bool:=(ay (l.length - 1)).any (wO l)
def bG (x:Val):Int:=
 if aN x.k 0 7=true then 4 else if kU x=true then 3 else if aN x.n (yV x.k) (yX x.k)=true then 1 else
 if 200<x.s.size\/40<x.l.length then 2 else if BV x.s=true then 1 else if x.l.any dP=true then 1 else if kF x.l=true then 7 else 0
theorem WX {s:ByteArray} {k:Nat} (h:k<s.size):∃ a:k<s.data.toList.length,s.data.toList[k]=s[k]:=⟨by simpa using h,rfl⟩
theorem Ez {s:ByteArray} {k:Nat} (h:k<s.size) (b:(s[k].toNat:Int)<32\/126<(s[k].toNat:Int)):BV s=true:=by
 obtain⟨a,e⟩:=WX h;refine Ey a ?_;rw[e];simpa [badByte] using b
theorem Nh {s:ByteArray} {k:Nat} (h:k<s.size) (b:¬ (s[k].toNat:Int)<32) (c:¬ 126<(s[k].toNat:Int)) (d:(s.data.toList.take k).any badByte=false):(s.data.toList.take (k+1)).any badByte=false:=by
 obtain⟨a,e⟩:=WX h;refine zX a ?_ d;rw[e];simp only[badByte,a8,decide_eq_false_iff_not];exact⟨b,c⟩
theorem Nj {s:ByteArray} {k:Nat} (h:s.size<=k) (a:(s.data.toList.take k).any badByte=false):BV s=false:=zY (by simpa using h) a
theorem Nl {l:List Int} {k:Nat} (b:1<=k) (h:k<l.length) (a:l[k]<=l[k - 1]):kF l=true:=by
 unfold kF;refine bj.2 ⟨k - 1,List.mem_range.2 (by omega),?_⟩;unfold wO;rw[show k - 1+1=k from by omega];simpa [List.getD,h,show k - 1<l.length from by omega] using a
theorem Jh {l:List Int} {k:Nat} (c:1<=k) (h:k<l.length) (a:¬ l[k]<=l[k - 1]) (b:(ay (k - 1)).any (wO l)=false):(ay (k+1 - 1)).any (wO l)=false:=by
 rw[show k+1 - 1=(k - 1)+1 from by omega,List.range_succ,bm,b,List.any_cons,List.any_nil];unfold wO;rw[show k - 1+1=k from by omega];simpa [List.getD,h,show k - 1<l.length from by omega] using a
theorem Ji {l:List Int} {k:Nat} (b:1<=k) (h:l.length<=k) (c:k<=l.length\/k=1) (a:(ay (k - 1)).any (wO l)=false):kF l=false:=by
 unfold kF;rw[show l.length - 1=k - 1 from by omega];exact a
theorem check_any (x:Val) (A:Option Addr) (c B1:Nat) (w:World) (O:x.l.length<=maxLen) (R:x.s.size<=maxLen) (y:Reads w B1 1 A x.l.length (bI an x.l)) (g:B1<=w.heap.size) :
  Calls Tryz.prog 124 #[.agg (BO x A c)] w
   λ e w'=>e = aw (am an (bG x))/\IY w w':=by
 by_cases e1:aN x.k 0 7=true
 .have a:=qh (show bG x=4 by unfold bG;rw[if_pos e1]);go_enter Tryz.func124,Tryz.ntmps124;go_wp2_with (first
    | (go_at_call 121;refine (aX _ _ _ _).mono ?_;rintro e w' ⟨rfl,rfl⟩)
    | (go_at_call 180;refine (jF _ _).mono ?_;rintro e w' ⟨rfl,rfl⟩))
  go_ret;exact⟨ag (by rw[a.o]),((Below.refl _ _).alloc (ax _) _)⟩
 have E:aN x.k 0 7=false:=by simpa using e1
 have l:=qh e1;clear e1;by_cases e2:kU x=true
 .have a:=qh (show bG x=3 by unfold bG;rw[if_neg l.o,if_pos e2]);go_enter Tryz.func124,Tryz.ntmps124;go_wp2_with (first
    | (go_at_call 121;refine (aX _ _ _ _).mono ?_;rintro e w' ⟨rfl,rfl⟩)
    | (go_at_call 180;refine (jF _ _).mono ?_;rintro e w' ⟨rfl,rfl⟩))
  refine (EW _ _ _ _).mono ?_;rintro e w1 ⟨rfl,hb⟩;go_wp2;go_ret;exact⟨ag (by rw[a.o]),((Below.refl _ _).alloc (ax _) _).trans (hb.mono (by simp))⟩
 have D:kU x=false:=by simpa using e2
 have o:=qh e2;clear e2;go_enter Tryz.func124,Tryz.ntmps124;go_wp2_with (first
    | (go_at_call 121;refine (aX _ _ _ _).mono ?_;rintro e w' ⟨rfl,rfl⟩)
    | (go_at_call 180;refine (jF _ _).mono ?_;rintro e w' ⟨rfl,rfl⟩))
 refine (EW _ _ _ _).mono ?_;rintro e w1 ⟨rfl,b⟩;have T:w1.cell? ⟨w.heap.size,0,none⟩=some (am an x.k):=Below.cell_of b (by simp[go_sem]);have S:w1.cell? ⟨w.heap.size,1,none⟩=some (am an x.n):=Below.cell_of b (by simp[go_sem]);have L:w1.cell? ⟨w.heap.size,2,none⟩=some (ao x.s):=Below.cell_of b (by simp[go_sem]);have c3:w1.cell? ⟨w.heap.size,3,none⟩=some (ap A x.l.length c):=Below.cell_of b (by simp[go_sem]);have hb:IY w w1:=((Below.refl _ _).alloc (ax _) _).trans (b.mono (by simp));clear b;by_cases e3:aN x.n (yV x.k) (yX x.k)=true
 .have a:=qh (show bG x=1 by unfold bG;rw[if_neg l.o,if_neg o.o,if_pos e3]);go_wp2_with (first
    | (go_at_call 121;refine (aX _ _ _ _).mono ?_;rintro e w' ⟨rfl,rfl⟩)
    | (go_at_call 180;refine (jF _ _).mono ?_;rintro e w' ⟨rfl,rfl⟩))
  go_ret;exact⟨ag (by rw[a.o]),hb⟩
 have C:aN x.n (yV x.k) (yX x.k)=false:=by simpa using e3
 have t:=qh e3;clear e3;by_cases e4:200<x.s.size
 .have a:=qh (show bG x=2 by unfold bG;rw[if_neg l.o,if_neg o.o,if_neg t.o,if_pos (.inl e4)]);go_wp2_with (first
    | (go_at_call 121;refine (aX _ _ _ _).mono ?_;rintro e w' ⟨rfl,rfl⟩)
    | (go_at_call 180;refine (jF _ _).mono ?_;rintro e w' ⟨rfl,rfl⟩))
  go_ret;exact⟨ag (by rw[a.o]),hb⟩
 by_cases e5:40<x.l.length
 .have a:=qh (show bG x=2 by unfold bG;rw[if_neg l.o,if_neg o.o,if_neg t.o,if_pos (.inr e5)]);go_wp2_with (first
    | (go_at_call 121;refine (aX _ _ _ _).mono ?_;rintro e w' ⟨rfl,rfl⟩)
    | (go_at_call 180;refine (jF _ _).mono ?_;rintro e w' ⟨rfl,rfl⟩))
  go_ret;exact⟨ag (by rw[a.o]),hb⟩
 have s:=qh (show bG x=if BV x.s=true then 1 else if x.l.any dP=true then 1 else if kF x.l=true then 7 else 0 by unfold bG;rw[if_neg l.o,if_neg o.o,if_neg t.o,if_neg (by omega)]);clear l o t;go_wp2_with (first
    | (go_at_call 121;refine (aX _ _ _ _).mono ?_;rintro e w' ⟨rfl,rfl⟩)
    | (go_at_call 180;refine (jF _ _).mono ?_;rintro e w' ⟨rfl,rfl⟩))
 clear E D C
 go_loop [5] (λ i=>∃ k:Nat,k<=x.s.size/\i = am an k/\(x.s.data.toList.take k).any badByte=false) (λ i=>x.s.size - (intOf i).toNat)
 case atStart=>exact⟨0,aD _,rfl,rfl⟩
 case round =>
  obtain⟨k,U,rfl,f⟩:=hrel;have d:=qh f;clear f;by_cases hlt:k<x.s.size
  .by_cases b1:(x.s[k].toNat:Int)<32
   .have a:=qh (Ez hlt (.inl b1));go_wp2;go_ret;exact⟨ag (by rw[s.o,if_pos a.o]),hb⟩
   by_cases b2:126<(x.s[k].toNat:Int)
   .have a:=qh (Ez hlt (.inr b2));go_wp2;go_ret;exact⟨ag (by rw[s.o,if_pos a.o]),hb⟩
   have m:=qh (Nh hlt b1 b2 d.o);go_wp2
   go_round
   case rel=>exact⟨k+1,by omega,by go_num,m.o⟩
   case measure=>simp[intOf];omega
  have B:=qh (show bG x=if x.l.any dP=true then 1 else if kF x.l=true then 7 else 0 by rw[s.o,if_neg (by rw[Nj (by omega) d.o];simp)]);clear s d;go_wp2
  go_loop [57,7] (λ i _=>∃ k:Nat,k<=x.l.length/\i = am an k/\(x.l.take k).any dP=false) (λ i _=>x.l.length - (intOf i).toNat)
  case atStart=>exact⟨0,aD _,rfl,rfl⟩
  case round =>
   obtain⟨r,M,rfl,f⟩:=hrel;have d:=qh f;clear f;by_cases hl2:r<x.l.length
   .obtain⟨J,u,rfl,_,n,H⟩:=((y.more g).below hb).at_ hl2;obtain⟨_,rfl⟩:=jm _ _ _ _ n;clear n;by_cases b1:aN x.l[r] 1 999=true
    .have a:=qh (Ey (p:=dP) hl2 b1);go_wp2_with (first
    | (go_at_call 121;refine (aX _ _ _ _).mono ?_;rintro e w' ⟨rfl,rfl⟩)
    | (go_at_call 180;refine (jF _ _).mono ?_;rintro e w' ⟨rfl,rfl⟩))
     go_ret;exact⟨ag (by rw[B.o,if_pos a.o]),hb⟩
    have G:aN x.l[r] 1 999=false:=by simpa using b1
    have m:=qh (zX (p:=dP) hl2 G d.o);clear b1;go_wp2_with (first
    | (go_at_call 121;refine (aX _ _ _ _).mono ?_;rintro e w' ⟨rfl,rfl⟩)
    | (go_at_call 180;refine (jF _ _).mono ?_;rintro e w' ⟨rfl,rfl⟩))
    go_round
    case rel=>exact⟨r+1,by omega,by go_num,m.o⟩
    case measure=>simp[intOf];omega
   have z:=qh (show bG x=if kF x.l=true then 7 else 0 by rw[B.o,if_neg (by rw[zY (by omega) d.o];simp)]);clear B d;go_wp2;go_loopw [8] (λ i wr=>∃ k:Nat,1<=k/\(k<=x.l.length\/k=1)/\i = am an k/\IY w1 wr/\(ay (k - 1)).any (wO x.l)=false) (λ i _=>x.l.length - (intOf i).toNat)
   case atStart=>exact⟨1,ax _,.inr rfl,rfl,Below.refl _ _,rfl⟩
   case round =>
    obtain⟨q,j,F,rfl,h,f⟩:=hrel;have d:=qh f;clear f
    replace c3:=Below.cell_of h c3
    clear T S L
    replace hb:=hb.trans (h.mono hb.size)
    by_cases hl3:q<x.l.length
    .obtain⟨J,u,rfl,_,n,H⟩:=((y.more g).below hb).at_ hl3;obtain⟨Q,v,K,_,I,N⟩:=((y.more g).below hb).at_ (show q - 1<x.l.length by omega);obtain rfl:J=Q:=by injection K
     obtain⟨_,rfl⟩:=jm _ _ _ _ n;obtain⟨_,rfl⟩:=jm _ _ _ _ I;clear n I K y;by_cases b1:x.l[q]<=x.l[q - 1]
     .have a:=qh (Nl j hl3 b1);go_wp2;go_quiet (fail);go_wp2;go_ret;exact⟨ag (by rw[z.o,if_pos a.o]),hb.drewN _⟩
     have m:=qh (Jh j hl3 b1 d.o);go_wp2;go_quiet (fail);go_wp2;go_roundw
     case rel=>exact⟨q+1,by omega,by omega,by go_num,h.drewN _,m.o⟩
     case measure=>simp[intOf];omega
    have P:=qh (show bG x=0 by rw[z.o,if_neg (by rw[Ji j (by omega) F d.o];simp)]);clear z d;go_wp2;go_ret;exact⟨ag (by rw[P.o]),hb⟩
def WY (k:Int):Bool:=decide (k=1) || (decide (k=2) || (decide (k=4) || (decide (k=6) || decide (k=7))))
theorem WZ {k:Int} (h:aN k 0 7=false):WY k=Jg k:=by
 simp only[aN,a8,decide_eq_false_iff_not] at h;have:k=0\/k=1\/k=2\/k=3\/k=4\/k=5\/k=6\/k=7:=by omega
 rcases this with rfl | rfl | rfl | rfl | rfl | rfl | rfl | rfl <;> decide
theorem adO {k:Int} {n:Int} (h:aN k 0 7=false) (a:Jg k=false->n=0):inB k n=!aN n (yV k) (yX k):=by
 simp only[aN,a8,decide_eq_false_iff_not] at h;have:k=0\/k=1\/k=2\/k=3\/k=4\/k=5\/k=6\/k=7:=by omega
 rcases this with rfl | rfl | rfl | rfl | rfl | rfl | rfl | rfl <;> first | (rw[a (by decide)];decide) | simp[inB]
theorem Xa {x:Val} (h:kU x=false):Jg x.k=false->x.n=0:=by
 intro a;simp[kU,a] at h;exact h.1
theorem Qj (x:Val) (A:Option Addr) (c B1:Nat) (w:World) (hn:x.l.length<=maxLen) (hs:x.s.size<=maxLen) (B:Reads w B1 1 A x.l.length (bI an x.l)) (f:B1<=w.heap.size) :
  Calls Tryz.prog 186 #[.agg (BO x A c)] w
   λ e w'=>e = aw (am an (bG x))/\IY w w':=by
 obtain⟨W,l⟩:=aC ((w.alloc (.cells (BO x A c) 65)));have c0:W.cell? ⟨w.heap.size,0,none⟩=some (am an x.k):=by rw[l];simp[go_sem]
 have Z:W.cell? ⟨w.heap.size,1,none⟩=some (am an x.n):=by rw[l];simp[go_sem]
 have S:W.cell? ⟨w.heap.size,2,none⟩=some (ao x.s):=by rw[l];simp[go_sem]
 have c3:W.cell? ⟨w.heap.size,3,none⟩=some (ap A x.l.length c):=by rw[l];simp[go_sem]
 have hb:IY w W:=by rw[l];exact ((Below.refl _ _).alloc (ax _) _)
 have HW:=qh l;clear l;go_enter Tryz.func186,Tryz.ntmps186;go_upto_region 1 with (fail);rw[<- HW.o];go_cut [0,3] (λ C T J=>C = .agg (BO x A c)/\T = av (WY x.k)/\W=J)
 case first =>
  go_wp2_with (fail)
  all_goals (go_meet;go_light;exact⟨by simp_all,by simp_all[WY,bo],rfl⟩)
 case rest =>
 obtain⟨rfl,rfl,rfl⟩:=hcut;by_cases e1:aN x.k 0 7=true
 .have a:=qh (show bG x=4 by unfold bG;rw[if_pos e1]);go_wp2_with (first
    | (go_at_call 86;refine (gU _ _ _ _).mono ?_;rintro e w' ⟨rfl,rfl⟩)
    | (go_at_call 222;refine (ja _ _ _).mono ?_;rintro e w' ⟨rfl,rfl⟩))
  go_ret;exact⟨ag (by rw[a.o]),hb⟩
 have j:aN x.k 0 7=false:=by simpa using e1
 have R:=qh (WZ j);have n:=qh e1;have F:=qh j;clear e1;go_upto_region 4 with (first
    | (go_at_call 86;refine (gU _ _ _ _).mono ?_;rintro e w' ⟨rfl,rfl⟩)
    | (go_at_call 222;refine (ja _ _ _).mono ?_;rintro e w' ⟨rfl,rfl⟩))
 rw[R.o];clear j;go_cut [0,3,36] (λ C _ G J=>C = .agg (BO x A c)/\G = av (kU x)/\W=J)
 case first =>
  go_wp2_with (fail)
  all_goals (go_meet;go_light;exact⟨by simp_all,by simp_all[kU,bi,bo],rfl⟩)
 case rest =>
 obtain⟨rfl,rfl,rfl⟩:=hcut;have L:True:=trivial;by_cases e2:kU x=true
 .have a:=qh (show bG x=3 by unfold bG;rw[if_neg n.o,if_pos e2]);rw[e2];clear e2;go_wp2_with (first
    | (go_at_call 86;refine (gU _ _ _ _).mono ?_;rintro e w' ⟨rfl,rfl⟩)
    | (go_at_call 222;refine (ja _ _ _).mono ?_;rintro e w' ⟨rfl,rfl⟩))
  go_ret;exact⟨ag (by rw[a.o]),hb⟩
 have h:kU x=false:=by simpa using e2
 have P:=qh (adO F.o (Xa h));have r:=qh e2;rw[h];clear e2 L h;by_cases e3:aN x.n (yV x.k) (yX x.k)=true
 .have a:=qh (show bG x=1 by unfold bG;rw[if_neg n.o,if_neg r.o,if_pos e3]);have O:inB x.k x.n=false:=by rw[P.o,e3];rfl
  clear e3;go_wp2_with (first
    | (go_at_call 86;refine (gU _ _ _ _).mono ?_;rintro e w' ⟨rfl,rfl⟩)
    | (go_at_call 222;refine (ja _ _ _).mono ?_;rintro e w' ⟨rfl,rfl⟩))
  go_ret;exact⟨ag (by rw[a.o]),hb⟩
 have O:inB x.k x.n=true:=by rw[P.o];simpa using e3
 have z:=qh e3;clear e3;by_cases e4:200<x.s.size
 .have a:=qh (show bG x=2 by unfold bG;rw[if_neg n.o,if_neg r.o,if_neg z.o,if_pos (.inl e4)]);go_wp2_with (first
    | (go_at_call 86;refine (gU _ _ _ _).mono ?_;rintro e w' ⟨rfl,rfl⟩)
    | (go_at_call 222;refine (ja _ _ _).mono ?_;rintro e w' ⟨rfl,rfl⟩))
  go_ret;exact⟨ag (by rw[a.o]),hb⟩
 by_cases e5:40<x.l.length
 .have a:=qh (show bG x=2 by unfold bG;rw[if_neg n.o,if_neg r.o,if_neg z.o,if_pos (.inr e5)]);go_wp2_with (first
    | (go_at_call 86;refine (gU _ _ _ _).mono ?_;rintro e w' ⟨rfl,rfl⟩)
    | (go_at_call 222;refine (ja _ _ _).mono ?_;rintro e w' ⟨rfl,rfl⟩))
  go_ret;exact⟨ag (by rw[a.o]),hb⟩
 have y:=qh (show bG x=if BV x.s=true then 1 else if x.l.any dP=true then 1 else if kF x.l=true then 7 else 0 by unfold bG;rw[if_neg n.o,if_neg r.o,if_neg z.o,if_neg (by omega)]);clear n r z;go_wp2_with (first
    | (go_at_call 86;refine (gU _ _ _ _).mono ?_;rintro e w' ⟨rfl,rfl⟩)
    | (go_at_call 222;refine (ja _ _ _).mono ?_;rintro e w' ⟨rfl,rfl⟩))
 clear O
 go_loop [86,4] (λ i _=>∃ k:Nat,k<=x.s.size/\i = am an k/\(x.s.data.toList.take k).any badByte=false) (λ i _=>x.s.size - (intOf i).toNat)
 case atStart=>exact⟨0,aD _,rfl,rfl⟩
 case round =>
  obtain⟨k,hk,rfl,d⟩:=hrel;have b:=qh d;clear d;by_cases hlt:k<x.s.size
  .by_cases b1:(x.s[k].toNat:Int)<32
   .have a:=qh (Ez hlt (.inl b1));go_wp2;go_ret;exact⟨ag (by rw[y.o,if_pos a.o]),hb⟩
   by_cases b2:126<(x.s[k].toNat:Int)
   .have a:=qh (Ez hlt (.inr b2));go_wp2;go_ret;exact⟨ag (by rw[y.o,if_pos a.o]),hb⟩
   have o:=qh (Nh hlt b1 b2 b.o);go_wp2
   go_round
   case rel=>exact⟨k+1,by omega,by go_num,o.o⟩
   case measure=>simp[intOf];omega
  have E:=qh (show bG x=if x.l.any dP=true then 1 else if kF x.l=true then 7 else 0 by rw[y.o,if_neg (by rw[Nj (by omega) b.o];simp)]);clear y b;go_wp2
  go_loop [105,6] (λ i _=>∃ k:Nat,k<=x.l.length/\i = am an k/\(x.l.take k).any dP=false) (λ i _=>x.l.length - (intOf i).toNat)
  case atStart=>exact⟨0,aD _,rfl,rfl⟩
  case round =>
   obtain⟨t,U,rfl,d⟩:=hrel;have b:=qh d;clear d;by_cases hl2:t<x.l.length
   .obtain⟨N,u,rfl,_,q,K⟩:=((B.more f).below hb).at_ hl2;obtain⟨_,rfl⟩:=jm _ _ _ _ q;clear q;by_cases b1:aN x.l[t] 1 999=true
    .have a:=qh (Ey (p:=dP) hl2 b1);go_wp2_with (first
    | (go_at_call 86;refine (gU _ _ _ _).mono ?_;rintro e w' ⟨rfl,rfl⟩)
    | (go_at_call 222;refine (ja _ _ _).mono ?_;rintro e w' ⟨rfl,rfl⟩))
     go_ret;exact⟨ag (by rw[E.o,if_pos a.o]),hb⟩
    have I:aN x.l[t] 1 999=false:=by simpa using b1
    have o:=qh (zX (p:=dP) hl2 I b.o);clear b1;go_wp2_with (first
    | (go_at_call 86;refine (gU _ _ _ _).mono ?_;rintro e w' ⟨rfl,rfl⟩)
    | (go_at_call 222;refine (ja _ _ _).mono ?_;rintro e w' ⟨rfl,rfl⟩))
    go_round
    case rel=>exact⟨t+1,by omega,by go_num,o.o⟩
    case measure=>simp[intOf];omega
   have D:=qh (show bG x=if kF x.l=true then 7 else 0 by rw[E.o,if_neg (by rw[zY (by omega) b.o];simp)]);clear E b;go_wp2;go_loopw [7] (λ i wr=>∃ k:Nat,1<=k/\(k<=x.l.length\/k=1)/\i = am an k/\IY W wr/\(ay (k - 1)).any (wO x.l)=false) (λ i _=>x.l.length - (intOf i).toNat)
   case atStart=>exact⟨1,ax _,.inr rfl,rfl,Below.refl _ _,rfl⟩
   case round =>
    obtain⟨s,m,H,rfl,g,d⟩:=hrel;have b:=qh d;clear d
    replace c3:=Below.cell_of g c3
    clear c0 Z S
    replace hb:=hb.trans (g.mono hb.size)
    by_cases hl3:s<x.l.length
    .obtain⟨N,u,rfl,_,q,K⟩:=((B.more f).below hb).at_ hl3;obtain⟨Y,v,Q,_,M,V⟩:=((B.more f).below hb).at_ (show s - 1<x.l.length by omega);obtain rfl:N=Y:=by injection Q
     obtain⟨_,rfl⟩:=jm _ _ _ _ q;obtain⟨_,rfl⟩:=jm _ _ _ _ M;clear q M Q B;by_cases b1:x.l[s]<=x.l[s - 1]
     .have a:=qh (Nl m hl3 b1);go_wp2;go_quiet (fail);go_wp2;go_ret;exact⟨ag (by rw[D.o,if_pos a.o]),hb.drewN _⟩
     have o:=qh (Jh m hl3 b1 b.o);go_wp2;go_quiet (fail);go_wp2;go_roundw
     case rel=>exact⟨s+1,by omega,by omega,by go_num,g.drewN _,o.o⟩
     case measure=>simp[intOf];omega
    have X:=qh (show bG x=0 by rw[D.o,if_neg (by rw[Ji m (by omega) H b.o];simp)]);clear D b;go_wp2;go_ret;exact⟨ag (by rw[X.o]),hb⟩
end Go.Proofs.YtcnagconagpkcaaGreatDoor
namespace Go.Proofs.YtcnagconagpkcaaGreatDoor
inductive Ex where
 | mk (k op:Int) (nm:ByteArray) (v:Val) (ar:List Ex)
def Ex.k:Ex->Int | .mk k _ _ _ _=>k
def Ex.op:Ex->Int | .mk _ op _ _ _=>op
def Ex.nm:Ex->ByteArray | .mk _ _ nm _ _=>nm
def Ex.v:Ex->Val | .mk _ _ _ v _=>v
def Ex.ar:Ex->List Ex | .mk _ _ _ _ ar=>ar
mutual
def Ex.parts:Ex->Nat
 | .mk _ _ _ _ ar=>aI ar+1
def aI:List Ex->Nat
 | []=>0
 | a :: r=>a.parts+aI r
end
mutual
def Ex.depth:Ex->Nat
 | .mk _ _ _ _ ar=>dJ ar+1
def dJ:List Ex->Nat
 | []=>0
 | a :: r=>max a.depth (dJ r)
end
theorem parts_eq (e:Ex):e.parts=aI e.ar+1:=by cases e;rw[Ex.parts];rfl
theorem wP (e:Ex):e.depth=dJ e.ar+1:=by cases e;rw[Ex.depth];rfl
mutual
theorem Ex.agE {P:Ex->Prop} (h:∀ k b nm v ar,(∀ a∈ar,P a)->P (.mk k b nm v ar)):∀ e,P e
 | .mk k b nm v ar=>h k b nm v ar (Ex.adg h ar)
theorem Ex.adg {P:Ex->Prop} (h:∀ k d nm v ar,(∀ a∈ar,P a)->P (.mk k d nm v ar)):∀ ar:List Ex,∀ a∈ar,P a
 | []=>λ _ c=>by cases c
 | b :: r=>λ a c=>by
  rcases aL.1 c with e | e
  .rw[e];exact Ex.agE h b
  .exact Ex.adg h r a e
end
theorem Ex.ind {P:Ex->Prop} (e:Ex) (h:∀ e:Ex,(∀ a∈e.ar,P a)->P e):P e:=Ex.agE (λ k b nm v ar c=>h (.mk k b nm v ar) c) e
theorem qj {a:Ex}:∀ {ar:List Ex},a∈ar->a.parts<=aI ar
 | b :: r,h=>by
  rw[aI];rcases aL.1 h with e | e
  .rw[e];omega
  .have:=qj e;omega
theorem Um (e:Ex):0<e.parts:=by rw[parts_eq];omega
theorem xQ:∀ ar:List Ex,ar.length<=aI ar
 | []=>aD _
 | a :: r=>by
  have:=xQ r;have:=Um a;rw[aI,List.length_cons];omega
mutual
def Ex.meas:Ex->Nat->Nat × Nat->Nat × Nat
 | .mk _ _ _ _ ar,lv,s=>if 300<s.1+1\/20<lv then (s.1+1,max s.2 lv) else fP ar (lv+1) (s.1+1,max s.2 lv)
def fP:List Ex->Nat->Nat × Nat->Nat × Nat
 | [],_,s=>s
 | a :: r,lv,s=>fP r lv (a.meas lv s)
end
theorem zZ (e:Ex) (lv:Nat) (s:Nat × Nat):e.meas lv s=if 300<s.1+1\/20<lv then (s.1+1,max s.2 lv) else fP e.ar (lv+1) (s.1+1,max s.2 lv):=by cases e;rw[Ex.meas];rfl
def bad (s:Nat × Nat):Prop:=300<s.1\/20<s.2
theorem Np {ar:List Ex} {lv:Nat} (h:∀ a∈ar,∀ s:Nat × Nat,s.1<=(a.meas lv s).1/\s.2<=(a.meas lv s).2):∀ s:Nat × Nat,s.1<=(fP ar lv s).1/\s.2<=(fP ar lv s).2:=by
 induction ar with
 | nil=>intro s;exact⟨ax _,ax _⟩
 | cons a r ih =>
  intro s;have d:=h a (a9 ..) s;have e:=ih (λ b c=>h b (ba _ c)) (a.meas lv s);rw[fP];omega
theorem SH (e:Ex):∀ lv (s:Nat × Nat),s.1<=(e.meas lv s).1/\s.2<=(e.meas lv s).2/\lv<=(e.meas lv s).2:=by
 induction e using Ex.ind with
 | h e ih =>
  intro lv s;rw[zZ];split
  .exact⟨by show s.1<=s.1+1;omega,by show s.2<=max s.2 lv;omega,by show lv<=max s.2 lv;omega⟩
  .have:=Np (lv:=lv+1) (λ a b s=>⟨(ih a b (lv+1) s).1,(ih a b (lv+1) s).2.1⟩) (s.1+1,max s.2 lv);simp only at this;omega
theorem Xb {s t:Nat × Nat} (h:bad s) (a:s.1<=t.1) (b:s.2<=t.2):bad t:=by unfold bad at *;omega
theorem Nq {lv:Nat}:∀ {ar:List Ex},(∀ a∈ar,∀ s:Nat × Nat,(¬ bad (s.1+a.parts,max s.2 (lv+a.depth))->a.meas (lv+1) s=(s.1+a.parts,max s.2 (lv+a.depth)))/\(bad (s.1+a.parts,max s.2 (lv+a.depth))->bad (a.meas (lv+1) s))) ->
  ∀ s:Nat × Nat,lv<=s.2->(¬ bad (s.1+aI ar,max s.2 (lv+dJ ar))->fP ar (lv+1) s=(s.1+aI ar,max s.2 (lv+dJ ar)))/\(bad (s.1+aI ar,max s.2 (lv+dJ ar))->bad (fP ar (lv+1) s))
 | [],_,s,hs=>by
  rw[fP,aI,dJ];have e:(s.1+0,max s.2 (lv+0))=s:=Prod.ext (by simp) (by simp;omega);rw[e];exact⟨λ _=>rfl,id⟩
 | a :: r,h,s,hs=>by
  rw[fP,aI,dJ];obtain⟨f,g⟩:=h a (a9 ..) s;have e:(s.1+(a.parts+aI r),max s.2 (lv+max a.depth (dJ r)))=((s.1+a.parts,max s.2 (lv+a.depth)).1+aI r,max (s.1+a.parts,max s.2 (lv+a.depth)).2 (lv+dJ r)):=
   Prod.ext (by simp;try omega) (by simp;try omega)
  by_cases d:bad (s.1+a.parts,max s.2 (lv+a.depth))
  .have i:=g d;have c:=Np (ar:=r) (lv:=lv+1) (λ b _ s=>⟨(SH b (lv+1) s).1,(SH b (lv+1) s).2.1⟩) (a.meas (lv+1) s);refine⟨λ j=>absurd (Xb d (by show _<=s.1+(a.parts+aI r);simp;try omega) (by show _<=max s.2 (lv+max a.depth (dJ r));simp;try omega)) j,λ _=>Xb i c.1 c.2⟩
  .have k:=Nq (λ b d=>h b (ba _ d)) (s.1+a.parts,max s.2 (lv+a.depth)) (by show lv<=max s.2 (lv+a.depth);omega);rw[f d,e];exact k
theorem aba (e:Ex):∀ lv (s:Nat × Nat),(¬ bad (s.1+e.parts,max s.2 (lv+e.depth))->e.meas (lv+1) s=(s.1+e.parts,max s.2 (lv+e.depth)))/\(bad (s.1+e.parts,max s.2 (lv+e.depth))->bad (e.meas (lv+1) s)):=by
 induction e using Ex.ind with
 | h e ih =>
  intro lv s;rw[zZ,parts_eq,wP];have d:=Nq (lv:=lv+1) (λ a c s=>ih a c (lv+1) s) (s.1+1,max s.2 (lv+1)) (by simp;omega);have b:(s.1+(aI e.ar+1),max s.2 (lv+(dJ e.ar+1)))=((s.1+1,max s.2 (lv+1)).1+aI e.ar,max (s.1+1,max s.2 (lv+1)).2 (lv+1+dJ e.ar)):=Prod.ext (by simp;omega) (by simp;omega);rw[b];split
  .rename_i g;refine⟨λ f=>absurd ?_ f,λ _=>?_⟩
   .unfold bad;simp;omega
   .unfold bad;simp;omega
  .exact d
theorem Xc (e:Ex):bad (e.meas 1 (0,0)) ↔ 300<e.parts\/20<e.depth:=by
 have h:=aba e 0 (0,0);have a:((0,0):Nat × Nat).1+e.parts=e.parts:=by simp
 have b:max ((0,0):Nat × Nat).2 (0+e.depth)=e.depth:=by simp
 rw[a,b] at h;by_cases hb:bad (e.parts,e.depth)
 .exact⟨λ _=>hb,λ _=>h.2 hb⟩
 .rw[h.1 hb];exact Iff.rfl
def bH:List (List UInt8):=[[97,110,100],[111,114],[110,111,116],[105,110],[104,97,115],[109,111,100],[116,114,117,101],[102,97,108,115,101]]
def nN (c:UInt8):Bool:=decide (97<=c.toNat) && decide (c.toNat<=122)
def fC (c:UInt8):Bool:=nN c || (decide (48<=c.toNat) && decide (c.toNat<=57)) || decide (c.toNat=95)
def aV (s:List UInt8):Bool:=!decide (s = []) && decide (s.length<=16) && (match s with | c :: _=>nN c | []=>false) && !bH.contains s && s.all fC
def jW (v:Val):Bool:=decide (v.k=0) && decide (v.n=0) && decide (v.s.toList = []) && decide (v.l = [])
def gV (op:Int):Nat × Nat:=
 if op=2\/op=3\/op=24\/op=25 then (2,1099511627776) else if op=26 then (3,3) else
 if op=1\/(12<=op/\op<=14)\/(20<=op/\op<=23)\/(28<=op/\op<=30)\/(34<=op/\op<=36) then (1,1) else
 if 1<=op/\op<=39 then (2,2) else (0,0)
def EX (l:List Ex):Int:=match l with
 | a :: _=>a.k
 | []=>0
def dH (k op:Int) (nm:ByteArray) (v:Val) (n:Nat):Bool:=
 if (k≠1/\jW v=false)\/(¬ (k=4\/k=5)/\(op≠0\/0<n))\/(¬ (k=2\/k=3\/k=5)/\nm.toList≠[]) then true else
 if k=5 then !decide (n=1) else decide (k=4) && (decide (n<(gV op).1) || decide ((gV op).2<n))
def yI (k op:Int) (nm:ByteArray) (v:Val) (n:Nat) (hk:Int):Int:=
 if aN k 1 5=true then 4 else if k=4/\aN op 1 39=true then 4 else if k=5/\aN op 1 6=true then 4 else
 if dH k op nm v n=true then 3 else
 if k=1 then (if v.k=0\/v.k=1 then 4 else bG v) else
 if k=4 then (if 12<=op/\op<=14/\hk≠2 then 3 else 0) else
 if aV nm.data.toList=true then 0 else 5
def jQ (e:Ex):Int:=yI e.k e.op e.nm e.v e.ar.length (EX e.ar)
mutual
def Ex.fault:Ex->Int
 | .mk k op nm v ar=>if jQ (.mk k op nm v ar)≠0 then jQ (.mk k op nm v ar) else jc ar
def jc:List Ex->Int
 | []=>0
 | a :: r=>if a.fault≠0 then a.fault else jc r
end
theorem Aa (e:Ex):e.fault=if jQ e≠0 then jQ e else jc e.ar:=by cases e;rw[Ex.fault];rfl
def dh (e:Ex):Int:=if 300<e.parts\/20<e.depth then 2 else e.fault
theorem nX {e:Ex} (h:e.fault=0):jQ e=0:=by
 rw[Aa] at h;split at h
 .rename_i a;exact absurd h a
 .rename_i a;exact Decidable.not_not.1 a
theorem EY:∀ {l:List Ex},jc l=0->∀ a∈l,a.fault=0
 | b :: r,h,a,ha=>by
  rw[jc] at h;split at h
  .rename_i c;exact absurd h c
  .rename_i c;rcases aL.1 ha with e | e
   .rw[e];exact Decidable.not_not.1 c
   .exact EY h a e
theorem nY {e:Ex} (h:e.fault=0):∀ a∈e.ar,a.fault=0:=by
 have b:=nX h;rw[Aa,if_neg (by rw[b];decide)] at h;exact EY h
structure uh (e:Ex):Prop where
 k:1<=e.k/\e.k<=5
 c:e.k=1->2<=e.v.k/\e.v.k<=7
 a0:e.k=1\/e.k=2\/e.k=3->e.ar = []
 op4:e.k=4->1<=e.op/\e.op<=39
 op5:e.k=5->1<=e.op/\e.op<=6
 a4:e.k=4->(gV e.op).1<=e.ar.length/\e.ar.length<=(gV e.op).2
 a5:e.k=5->e.ar.length=1
theorem pM {a b k:Int} (h:aN k a b=false):a<=k/\k<=b:=by
 unfold aN at h;simp at h;omega
theorem kG {e:Ex} (h:jQ e=0):uh e:=by
 unfold jQ yI at h;by_cases c1:aN e.k 1 5=true
 .rw[if_pos c1] at h;exact absurd h (by decide)
 rw[if_neg c1] at h;by_cases c2:e.k=4/\aN e.op 1 39=true
 .rw[if_pos c2] at h;exact absurd h (by decide)
 rw[if_neg c2] at h;by_cases c3:e.k=5/\aN e.op 1 6=true
 .rw[if_pos c3] at h;exact absurd h (by decide)
 rw[if_neg c3] at h;by_cases c4:dH e.k e.op e.nm e.v e.ar.length=true
 .rw[if_pos c4] at h;exact absurd h (by decide)
 rw[if_neg c4] at h;have c:=pM (aM _▸c1);unfold dH at c4;split at c4
 .exact absurd rfl c4
 rename_i b;refine⟨c,λ a=>?_,λ a=>?_,λ a=>?_,λ a=>?_,λ a=>?_,λ a=>?_⟩
 .rw[if_pos a] at h;split at h
  .exact absurd h (by decide)
  .rename_i f;unfold bG at h;split at h
   .exact absurd h (by decide)
   .rename_i d;have:=pM (aM _▸d);omega
 .refine List.eq_nil_of_length_eq_zero ?_;by_cases h0:0<e.ar.length
  .exact absurd (Or.inr (Or.inl ⟨by omega,Or.inr h0⟩)) b
  .omega
 .exact pM (aM _▸λ q=>c2 ⟨a,q⟩)
 .exact pM (aM _▸λ q=>c3 ⟨a,q⟩)
 .rw[if_neg (by omega)] at c4;simp[a] at c4;exact c4
 .rw[if_pos a] at c4;simpa using c4
end Go.Proofs.YtcnagconagpkcaaGreatDoor
namespace Go.Proofs.YtcnagconagpkcaaGreatDoor
open Go.RowKit
def ai (e:Ex) (A:Option Addr) (c:Nat) (A':Option Addr) (c':Nat):List Value:=
 [am an e.k,am an e.op,ao e.nm,am an e.v.k,am an e.v.n,ao e.v.s,ap A e.v.l.length c,ap A' e.ar.length c']
abbrev BK (k o:Int) (s:ByteArray) (v:Val) (A:Option Addr) (c:Nat) (B:Option Addr) (m d:Nat):Array Value:=#[am an k,am an o,ao s,am an v.k,am an v.n,ao v.s,ap A v.l.length c,ap B m d]
abbrev BC (e:Ex) (A:Option Addr) (c:Nat) (B:Option Addr) (m d:Nat):Array Value:=#[am an e.k,am an e.op,ao e.nm,am an e.v.k,am an e.v.n,ao e.v.s,ap A e.v.l.length c,ap B m d]
inductive aZ (w:World) (B:Nat):Ex->List Value->Prop
 | mk {e:Ex} {A:Option Addr} {c:Nat} {A':Option Addr} {c':Nat} {cs:List Value} (hn:e.nm.size<=maxLen) (hs:e.v.s.size<=maxLen) (hl:e.v.l.length<=maxLen) (ha:e.ar.length<=maxLen)
   (hx:Reads w B 1 A e.v.l.length (bI an e.v.l)) (hr:Reads w B 8 A' e.ar.length cs) (hi:∀ i (h:i<e.ar.length),aZ w B e.ar[i] ((cs.drop (i*8)).take 8)):aZ w B e (ai e A c A' c')
theorem aZ.keep {w w':World} {B:Nat} {e:Ex} {cs:List Value} (h:aZ w B e cs) (a:Below B w w'):aZ w' B e cs:=by
 induction h with
 | mk hn hs hl ha hx hr hi ih=>exact .mk hn hs hl ha (hx.below a) (hr.below a) ih
theorem aZ.up {w:World} {B B':Nat} {e:Ex} {cs:List Value} (h:aZ w B e cs) (a:B<=B'):aZ w B' e cs:=by
 induction h with
 | mk hn hs hl ha hx hr hi ih=>exact .mk hn hs hl ha (hx.more a) (hr.more a) ih
theorem aZ.arg {w:World} {B:Nat} {e:Ex} {A':Option Addr} {cs:List Value} (d:Reads w B 8 A' e.ar.length cs) (c:∀ i (h:i<e.ar.length),aZ w B e.ar[i] ((cs.drop (i*8)).take 8)) {i:Nat} (h:i<e.ar.length) :
  ∃ ad b,A'=some ad/\ad.block<B/\aZ w B e.ar[i] b/\∀ j u,b[j]?=some u->w.cell? ((ad.add (i*8)).add j)=some u:=by
 obtain⟨ad,rfl,f,g⟩:=d.2 (by omega);refine⟨ad,_,rfl,f,c i h,λ j u a=>?_⟩;rw[qf];refine g _ u ?_;rw[List.getElem?_take] at a;split at a
 .rw[bc] at a;exact a
 .cases a
theorem wQ (a:Ex):∀ l:List Ex,aI (l ++ [a])=aI l+a.parts
 | []=>by simp[aI]
 | b :: r=>by rw[bp,aI,aI,wQ a r];omega
theorem Dz (a:Ex):∀ l:List Ex,dJ (l ++ [a])=max (dJ l) a.depth
 | []=>by simp[dJ]
 | b :: r=>by rw[bp,dJ,dJ,Dz a r];omega
theorem wR (l:List Ex):∀ k,aI (l.take k)<=aI l:=by
 induction l with
 | nil=>intro k;simp[aI]
 | cons a r ih =>
  intro k;cases k with
  | zero=>simp[aI]
  | succ k=>rw[bq,aI,aI];have:=ih k;omega
theorem Nr (l:List Ex):∀ k,dJ (l.take k)<=dJ l:=by
 induction l with
 | nil=>intro k;simp[dJ]
 | cons a r ih =>
  intro k;cases k with
  | zero=>simp[dJ]
  | succ k=>rw[bq,dJ,dJ];have:=ih k;omega
theorem EZ {a:Ex}:∀ {l:List Ex},a∈l->a.depth<=dJ l
 | b :: r,h=>by
  rw[dJ];rcases aL.1 h with e | e
  .rw[e];omega
  .have:=EZ e;omega
theorem ql (e:Ex):e.depth<=e.parts:=by
 induction e using Ex.ind with
 | h e ih =>
  rw[wP,parts_eq];have:∀ l:List Ex,(∀ a∈l,a.depth<=a.parts)->dJ l<=aI l:=by
   intro l
   induction l with
   | nil=>intro _;simp[dJ]
   | cons a r ih =>
    intro h;have d:=h a (a9 ..);have f:=ih (λ b c=>h b (ba _ c));rw[dJ,aI];omega
  have:=this e.ar ih;omega
theorem E5 (e:Ex):∀ (B:Nat) (cs:List Value) (w:World),aZ w B e cs->B<=w.heap.size->e.parts<=1000000000000 ->
  IE 82 #[.agg cs.toArray] w (.tuple #[am an (e.parts:Nat),am an (e.depth:Nat)]):=by
 induction e using Ex.ind with
 | h e ih =>
  rintro B cs w ⟨hn,hs,hl,ha,hx,hr,Z⟩ O hp;rename_i A c A' c' cs;unfold maxLen at ha;have Q:=qh (And.intro hr Z);have HI:=qh ih;have v:=ql e;have T:=qh (And.intro (parts_eq e) (wP e));clear hr Z ih hx;show Calls Tryz.prog 82 #[.agg (BC e A c A' e.ar.length c')] w _;go_enter Tryz.func82,Tryz.ntmps82;go_wp2;go_loopw [4,5,13] (λ p d i wr=>∃ k:Nat,k<=e.ar.length/\i = am an k/\p = am an ((aI (e.ar.take k)+1:Nat):Int)/\d = am an ((dJ (e.ar.take k):Nat):Int)/\IY w wr) (λ _ _ i _=>e.ar.length - (intOf i).toNat)
  case atStart=>exact⟨0,aD _,rfl,rfl,rfl,(Below.refl _ _).alloc (ax _) _⟩
  case round =>
   obtain⟨k,hk,rfl,rfl,rfl,g⟩:=hrel;have U:=g.size;have X:=g.mono O;obtain⟨P,s⟩:=af (aI (e.ar.take k));obtain⟨D,r⟩:=af (dJ (e.ar.take k));have n:=wR e.ar k;have q:=Nr e.ar k;rw[s] at n;rw[r] at q;rw[s,r];by_cases hlt:k<e.ar.length
   .obtain⟨ad,ci,rfl,hb,o,b⟩:=aZ.arg (Q.o.1.below X) (λ i h=>(Q.o.2 i h).keep X) hlt;obtain⟨a,l⟩:=af (e.ar[k]);have f:a∈e.ar:=by rw[<- l];exact bk hlt
    have I:=qj f;have z:=EZ f;have C:=parts_eq e;have H:=qh (show aI (e.ar.take (k+1))=P+a.parts/\dJ (e.ar.take (k+1))=max D a.depth by
     rw[bl hlt,wQ,Dz,l,s,r];exact⟨rfl,rfl⟩)
    have aa:P+a.parts<=1000000000000:=by
     have:=wR e.ar (k+1);rw[H.o.1] at this;omega
    have N:a.parts<=1000000000000:=by omega
    have Ej:a.depth<=1000000000000:=by have:=ql a;omega
    have M:D<=1000000000000:=by have:=wP e;omega
    have aW:=qh hlt;have J:=qh (λ w' h1 h2=>HI.o a f B ci w' h1 h2 N);rw[l] at o;have nP:=qh o;obtain⟨ab,ae,ak,al,E,F,G⟩:=o;rename_i A1 R V t ac;obtain⟨kC,kT,nZ,tV,tX,tY,tZ,wJ⟩:=Cm b;clear E F G b s r l f I z C n q v;go_wp2_with fail;obtain⟨W,L⟩:=aC (wr.alloc (.cells (BC a A1 R V a.ar.length t) 67 (0,0)));have m:IY wr W:=L▸(Below.refl _ wr).alloc (ax _) _;rw[<- L];have j:=g.trans (m.mono U);have u:=m.mono (br O U);clear L kC kT nZ tV tX tY tZ wJ;refine (J.o W (nP.o.keep u) (br O j.size)).mono ?_;rintro S w3 ⟨rfl,x⟩;have K:=j.trans (x.mono j.size);clear x m u j;go_wp2;go_roundw
    case rel=>exact⟨k+1,aW.o,by go_num,by rw[H.o.1];go_num,by rw[H.o.2];go_num,K⟩
    case measure =>
     have:=aW.o;simp[intOf];omega
   .have y:e.ar.take k=e.ar:=bn (by omega);have Y:=qh (show e.parts=P+1/\e.depth=D+1 by rw[T.o.1,T.o.2,<- s,<- r,y];exact⟨rfl,rfl⟩);have M:D<=1000000000000:=by have:=wP e;omega
    clear s r y n q v;go_wp2;go_ret2;exact⟨bP (by rw[Y.o.1,Y.o.2];rfl),g⟩
end Go.Proofs.YtcnagconagpkcaaGreatDoor
