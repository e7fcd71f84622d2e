/- Lemmas. -/
import Derived.Test.YtcnagconagpkcaaGreatDoorZ4
import Derived.Deep.MidRow
import Derived.Deep.WholeRow
open Go.Value renaming int->bd, string->bf, slice->bh, pointer->bi, bool->bk, oneCell'->br, ownBlock->bN
open Go.IntKind renaming i64->be
open Go.Obj renaming cells->bj
open Go.Ending renaming returned->bl
open Nat renaming le_refl->bm, le_trans->bo, zero_le->bE
open And renaming intro->bn
open Go.Instr renaming lookup->bp, loadAt->bw
open Go.World renaming size_alloc->bq, ownsRow_nil->bt
open List renaming find?_eq_none->bs, mem_singleton->bv, all_eq_true->bx, find?_some->bz, mem_of_find?_eq_some->bA, eq_nil_of_length_eq_zero->bB, getElem_mem->bL, length_append->bO, drop_append_of_le_length->bR
set_option maxHeartbeats 4000000
set_option maxRecDepth 100000
namespace Go.Proofs.YtcnagconagpkcaaGreatDoor
open Tryz
open Tryz renaming prog->lM
section
open Go.RowKit Go.Lib
attribute [local go_sem ↓] Go.wp_at_zero Go.wp_at_succ
def wL (t:TypeId) (v:Value):Sem Value:=bw t v
def Hr (t:TypeId) (p v:Value):Sem Unit:=Instr.storeAt t p v
theorem ld_item (ρ:Operand->Value) (dst:Option Tmp) (x:Operand) (ty:TypeId) (pos:String) (after:Array Edge) (guard:Option (Nat × Bool)) :
  execOp ρ { dst,op:=.load 59 x,type:=ty,pos,after,guard } = (do pure (.value (<- wL 59 (ρ x)))):=rfl
theorem st_item (ρ:Operand->Value) (dst:Option Tmp) (x y:Operand) (ty:TypeId) (pos:String) (after:Array Edge) (guard:Option (Nat × Bool)) :
  execOp ρ { dst,op:=.store 59 x y,type:=ty,pos,after,guard } = (do Hr 59 (ρ x) (ρ y);pure .skip):=rfl
theorem ld_node (ρ:Operand->Value) (dst:Option Tmp) (x:Operand) (ty:TypeId) (pos:String) (after:Array Edge) (guard:Option (Nat × Bool)) :
  execOp ρ { dst,op:=.load 110 x,type:=ty,pos,after,guard } = (do pure (.value (<- wL 110 (ρ x)))):=rfl
theorem st_node (ρ:Operand->Value) (dst:Option Tmp) (x y:Operand) (ty:TypeId) (pos:String) (after:Array Edge) (guard:Option (Nat × Bool)) :
  execOp ρ { dst,op:=.store 110 x y,type:=ty,pos,after,guard } = (do Hr 110 (ρ x) (ρ y);pure .skip):=rfl
theorem ld_ans (ρ:Operand->Value) (dst:Option Tmp) (x:Operand) (ty:TypeId) (pos:String) (after:Array Edge) (guard:Option (Nat × Bool)) :
  execOp ρ { dst,op:=.load 57 x,type:=ty,pos,after,guard } = (do pure (.value (<- wL 57 (ρ x)))):=rfl
theorem st_ans (ρ:Operand->Value) (dst:Option Tmp) (x y:Operand) (ty:TypeId) (pos:String) (after:Array Edge) (guard:Option (Nat × Bool)) :
  execOp ρ { dst,op:=.store 57 x y,type:=ty,pos,after,guard } = (do Hr 57 (ρ x) (ρ y);pure .skip):=rfl
theorem ld_part (ρ:Operand->Value) (dst:Option Tmp) (x:Operand) (ty:TypeId) (pos:String) (after:Array Edge) (guard:Option (Nat × Bool)) :
  execOp ρ { dst,op:=.load 266 x,type:=ty,pos,after,guard } = (do pure (.value (<- wL 266 (ρ x)))):=rfl
theorem st_part (ρ:Operand->Value) (dst:Option Tmp) (x y:Operand) (ty:TypeId) (pos:String) (after:Array Edge) (guard:Option (Nat × Bool)) :
  execOp ρ { dst,op:=.store 266 x y,type:=ty,pos,after,guard } = (do Hr 266 (ρ x) (ρ y);pure .skip):=rfl
theorem ld_rule (ρ:Operand->Value) (dst:Option Tmp) (x:Operand) (ty:TypeId) (pos:String) (after:Array Edge) (guard:Option (Nat × Bool)) :
  execOp ρ { dst,op:=.load 144 x,type:=ty,pos,after,guard } = (do pure (.value (<- wL 144 (ρ x)))):=rfl
theorem st_rule (ρ:Operand->Value) (dst:Option Tmp) (x y:Operand) (ty:TypeId) (pos:String) (after:Array Edge) (guard:Option (Nat × Bool)) :
  execOp ρ { dst,op:=.store 144 x y,type:=ty,pos,after,guard } = (do Hr 144 (ρ x) (ρ y);pure .skip):=rfl
theorem ld_form (ρ:Operand->Value) (dst:Option Tmp) (x:Operand) (ty:TypeId) (pos:String) (after:Array Edge) (guard:Option (Nat × Bool)) :
  execOp ρ { dst,op:=.load 26 x,type:=ty,pos,after,guard } = (do pure (.value (<- wL 26 (ρ x)))):=rfl
theorem st_form (ρ:Operand->Value) (dst:Option Tmp) (x y:Operand) (ty:TypeId) (pos:String) (after:Array Edge) (guard:Option (Nat × Bool)) :
  execOp ρ { dst,op:=.store 26 x y,type:=ty,pos,after,guard } = (do Hr 26 (ρ x) (ρ y);pure .skip):=rfl
theorem wO {w:World} {t:TypeId} {ad:Addr} {cs:List Value} {d:TypeDesc} (e:lM.underlying t=some d) (h:d.isRow=true) (b:(lM.info? t).map (·.size)=some cs.length) (f:∀ j u,cs[j]?=some u->w.cell? (ad.add j)=some u) :
  (wL t (bi (some ad))).run lM w = .ok (.agg cs.toArray) w:=by
 have g:(loadCells ad cs.length).run lM w = .ok cs.toArray w:=run_loadCells_list (P:=lM) w ad cs f;cases hq:lM.info? t with
 | none=>simp[hq] at b
 | some i =>
  have c:i.size=cs.length:=by simpa [hq] using b
  have a:(isAgg t).run lM w = .ok true w:=by
   unfold isAgg;rw[Sem.run_bind,run_underlying e w];cases d <;> simp_all
  simp[wL,bw,Instr.sureAddr,loadVar,Sem.run_bind,a,sizeOf,typeInfo,hq,c,g]
theorem wP {w:World} {t:TypeId} {c c':Array Value} (b:(lM.info? t).map (·.size)=some c'.size) (a:c.size=c'.size) (d:c'.all (·.oneCell')=true) :
  (Hr t (bi (some ⟨w.heap.size,0,none⟩)) (.agg c')).run lM (w.alloc (.cells c t)) = .ok () (w.alloc (.cells c' t)):=run_storeAt_new w t c c' b a d
theorem az (w:World) (o:Obj):DD w (w.alloc o):=(Below.refl _ w).alloc (bm _) _
end
section
open Go.RowKit
attribute [local go_sem ↓] Go.wp_at_zero Go.wp_at_succ ld_item st_item ld_node st_node ld_ans st_ans ld_part st_part ld_rule st_rule ld_form st_form
theorem aT.pG {w:World} {B0 g m n l:Nat} {x:jS} {f:aI} {N:List au} {K:aY} (h:aT w B0 g m n l x f N K) {i:Nat} (k:i<N.length) :
  ∃ ad A1 c1 A2 c2 A3 c3 A4 c4 A5 c5 B1 b1 B2 b2 B3 b3 A c,x.AN=some ad/\w.cell? ⟨g,5,none⟩=some (bh (some ad) N.length x.cn)/\dW w B0 N[i].it (itC N[i].it A1 c1 A2 c2 A3 c3 A4 c4 A5 c5 (XY N[i].it.ans B1 b1 B2 b2 B3 b3))/\(kz w w.heap.size A c N[i].lo/\N[i].lo.length<=1000) /\
   ∀ j u,((bd be N[i].it.k)::(bf N[i].it.nm)::(bh A1 N[i].it.iff.length c1)::(bh A2 N[i].it.ph.length c2)::(bh A3 N[i].it.items.length c3)::(bk N[i].it.sh)::(bh A4 N[i].it.cnt.length c4)::(bf N[i].it.over)::(bd be N[i].it.ans.k)::(bd be N[i].it.ans.lo)::(bd be N[i].it.ans.hi)::(bd be N[i].it.ans.pl)::(bf N[i].it.ans.ls)::(bh B1 N[i].it.ans.only.length b1)::(bk N[i].it.ans.sh)::(bh B2 N[i].it.ans.rs.length b2)::(bk N[i].it.ans.need)::(bh B3 N[i].it.ans.ch.length b3)::(bh A5 N[i].it.cmp.length c5)::[bd be N[i].par,bd be N[i].jA,bd be N[i].dm,bh A N[i].lo.length c])[j]?=some u->w.cell? ((ad.add (i*23)).add j)=some u:=by
 obtain⟨ad,cs,e,q,⟨p,A,c,rfl,hit,d,b,-⟩,o⟩:=h.nodes.at_ k;have c5:w.cell? ⟨g,5,none⟩=some (bh x.AN N.length x.cn):=h.blk.cell 5;rw[e] at c5;have a:=hit;cases hit;exact⟨ad,_,_,_,_,_,_,_,_,_,_,_,_,_,_,_,_,A,c,e,c5,a,⟨d,b⟩,o⟩
theorem aO.get {w:World} {b:Nat} {d:List (ByteArray × Value)} (h:aO w b d) {t e:TypeId} (g:lM.underlying t=some (.map 9 e)) {z:Value} (j:(zeroValue e).run lM w = .ok z w) {s:ByteArray} (k:s.size<=maxLen) :
  (bp t (.map (some b)) (bf s) false).run lM w = .ok ((di d s).getD z) w:=by
 obtain⟨D,l,n,m⟩:=h.ex;obtain⟨v,ps,c,f⟩:=l.lookup (Maps.string_keyed underlying9) g j (zd:=.held z) (zp:=[]) rfl (keyS k);rw[c];have i:=m s (.held z);have a:(DataW.held v:DataW Value)=D.atKey (.string s.data.toList) (.held z):=by
  unfold R0 at f;exact (Prod.mk.inj (Option.some.inj f)).1
 rw[i] at a;cases hg:di d s with
 | none=>rw[hg] at a;rw[DataW.held.inj a];rfl
 | some u=>rw[hg] at a;rw[DataW.held.inj a];rfl
theorem yX {w:World} {ad:Addr} {cs:List Value} (b:cs.length=19) (a:∀ j u,cs[j]?=some u->w.cell? (ad.add j)=some u):(wL 59 (bi (some ad))).run lM w = .ok (.agg cs.toArray) w:=
 wO underlying59 rfl (by rw[b];kernel_rfl) a
theorem Ns {w:World} {cs:List Value} (a:cs.length=19) (b:∀ v∈cs,v.oneCell'=true):(Hr 59 (bi (some ⟨w.heap.size,0,none⟩)) (.agg cs.toArray)).run lM (w.alloc (bj #[bd be 0,bf ⟨#[]⟩,bh none 0 0,bh none 0 0,bh none 0 0,bk false,bh none 0 0,bf ⟨#[]⟩,bd be 0,bd be 0,bd be 0,bd be 0,bf ⟨#[]⟩,bh none 0 0,bk false,bh none 0 0,bk false,bh none 0 0,bh none 0 0] 59 (0,0))) = .ok () (w.alloc (.cells cs.toArray 59 (0,0))):=
 wP (by rw[show cs.toArray.size=19 from a];kernel_rfl) (show 19=cs.toArray.size from a.symm) (by rw[<- Array.all_toList];exact bx.2 b)
theorem X6 {w:World} {B0 s T S m:Nat} {x:jS} {f:aI} {N:List au} {K:aY} (h:aT w B0 s T S m x f N K) (n:Nat) (R:n<N.length) :
  CS 167 #[bi (some ⟨s,0,none⟩),bd be n] w (bd be (SK K N[n])):=by
 have D:=h.cap;have X:=h.nodes.1;obtain⟨ad,A1,c1,A2,c2,A3,c3,A4,c4,A5,c5,B1,b1,B2,b2,B3,b3,A,c,I,Q,hit,g,y⟩:=h.pG R;obtain⟨B,q,G⟩:=h.kd;obtain⟨d,H⟩:=af (N[n]);rw[H] at hit g y ⊢;have o:d.it.nm.size<=maxLen:=by cases hit;assumption
 obtain⟨cs,b⟩:∃ cs:List Value,[bd be d.it.k,bf d.it.nm,bh A1 d.it.iff.length c1,bh A2 d.it.ph.length c2,bh A3 d.it.items.length c3,bk d.it.sh,bh A4 d.it.cnt.length c4,bf d.it.over,bd be d.it.ans.k,bd be d.it.ans.lo,bd be d.it.ans.hi,bd be d.it.ans.pl,bf d.it.ans.ls,bh B1 d.it.ans.only.length b1,bk d.it.ans.sh,bh B2 d.it.ans.rs.length b2,bk d.it.ans.need,bh B3 d.it.ans.ch.length b3,bh A5 d.it.cmp.length c5]=cs:=⟨_,rfl⟩;have E:cs.length=19:=by subst b;rfl
 have P:=yX (w:=w) E (ad:=ad.add (n*23)) (λ j u F=>y j u (by subst b;rw[show ((bd be d.it.k)::(bf d.it.nm)::(bh A1 d.it.iff.length c1)::(bh A2 d.it.ph.length c2)::(bh A3 d.it.items.length c3)::(bk d.it.sh)::(bh A4 d.it.cnt.length c4)::(bf d.it.over)::(bd be d.it.ans.k)::(bd be d.it.ans.lo)::(bd be d.it.ans.hi)::(bd be d.it.ans.pl)::(bf d.it.ans.ls)::(bh B1 d.it.ans.only.length b1)::(bk d.it.ans.sh)::(bh B2 d.it.ans.rs.length b2)::(bk d.it.ans.need)::(bh B3 d.it.ans.ch.length b3)::(bh A5 d.it.cmp.length c5)::[bd be d.par,bd be d.jA,bd be d.dm,bh A d.lo.length c]:List Value) = [bd be d.it.k,bf d.it.nm,bh A1 d.it.iff.length c1,bh A2 d.it.ph.length c2,bh A3 d.it.items.length c3,bk d.it.sh,bh A4 d.it.cnt.length c4,bf d.it.over,bd be d.it.ans.k,bd be d.it.ans.lo,bd be d.it.ans.hi,bd be d.it.ans.pl,bf d.it.ans.ls,bh B1 d.it.ans.only.length b1,bk d.it.ans.sh,bh B2 d.it.ans.rs.length b2,bk d.it.ans.need,bh B3 d.it.ans.ch.length b3,bh A5 d.it.cmp.length c5] ++ [bd be d.par,bd be d.jA,bd be d.dm,bh A d.lo.length c] from rfl];rw[List.getElem?_append_left (List.getElem?_eq_some_iff.1 F).1];exact F));have O:=Ns (w:=w) E (by subst b;simp[br]);obtain⟨W,l⟩:=aG (w.alloc (.cells cs.toArray 59 (0,0)));have a:DD w W:=l▸az w _;have k:ah W w.heap.size 59 cs.toArray:=l▸ah.new w _ _;have U:=qh h;have z:=qh (bn (q.below a q.lt) G);have v:=qh b;clear hit g y H I h q G b;have C:=qh (show SK K d=if d.it.k=4 then d.it.ans.k else SI K d.it.nm from rfl);go_enter func167,ntmps167;go_upto_region 2 with (fail);rw[<- l];clear Q;clear l;rw[<- v.o] at k;have J:W.cell? ⟨w.heap.size,0,none⟩=_:=k.cell 0;have M:W.cell? ⟨w.heap.size,1,none⟩=_:=k.cell 1;have L:W.cell? ⟨w.heap.size,8,none⟩=_:=k.cell 8;simp only[List.getElem?_toArray,List.getElem?_cons_zero,List.getElem?_cons_succ] at J M L;by_cases h4:d.it.k=4
 .have t:=qh (C.o.trans (if_pos h4));have r:(d.it.k == 4)=true:=by simp[h4]
  clear h4;go_wp2;go_ret;exact⟨aj (by rw[t.o]),a⟩
 .have t:=qh (C.o.trans (if_neg h4));have r:(d.it.k == 4)=false:=by simp[h4]
  have Y:W.cell? ⟨s,8,none⟩=some (.map (some m)):=(U.o.keep a).blk.cell 8;have V:=(show aO W.drew m B from z.o.1.same rfl).get underlying112 (X3 W.drew) o;have i:((di B d.it.nm).getD (.int .i64 0)) = .int .i64 (SI K d.it.nm):=by
   rw[z.o.2 d.it.nm];unfold SI;cases K.find? (λ p=>decide (p.1=d.it.nm)) <;> rfl
  rw[i] at V;clear i;go_upto_region 4 with (fail);go_region;go_wp2;go_ret;exact⟨aj (by rw[t.o]),by first | exact a | exact a.drew⟩
end
section
open Go.RowKit
attribute [local go_sem ↓] Go.wp_at_zero Go.wp_at_succ
structure SX (w:World) (B m1 m2:Nat) (lC lI:List (ByteArray × Value)) (cells:List bu) (loops:List bU):Prop where
 c:aO w m1 lC
 cc:MO w B lC cells
 n:aO w m2 lI
 nn:Lr w B lI loops
theorem nO.up {w:World} {B B':Nat} {d:bU} {cs:List Value} (h:nO w B d cs) (i:B<=B'):nO w B' d cs:=by
 obtain⟨⟨A,c,e,a,f⟩,g,b,j⟩:=h;exact⟨⟨A,c,e,a.more i,f⟩,g,b,j⟩
theorem nP.up {w:World} {B B':Nat} {d:bu} {cs:List Value} (h:nP w B d cs) (i:B<=B'):nP w B' d cs:=by
 obtain⟨⟨A,c,e,a,f⟩,g,b,j⟩:=h;exact⟨⟨A,c,e,a.more i,f⟩,g,b,j⟩
theorem SX.keep {w w':World} {B c d:Nat} {e f:List (ByteArray × Value)} {a:List bu} {loops:List bU} (h:SX w B c d e f a loops) (b:DD w w') (g:B<=w.heap.size):SX w' B c d e f a loops:=
 ⟨h.c.below b h.c.lt,h.cc.keep (b.mono g),h.n.below b h.n.lt,h.nn.keep (b.mono g)⟩
theorem SX.up {w:World} {B B' j m:Nat} {i k:List (ByteArray × Value)} {a:List bu} {loops:List bU} (h:SX w B j m i k a loops) (l:B<=B'):SX w B' j m i k a loops:=
 ⟨h.c,⟨h.cc.no,λ s v b=>by obtain⟨d,cs,f,e,g,c⟩:=h.cc.yes s v b;exact⟨d,cs,f,e,g,c.up l⟩,h.cc.len,h.cc.one⟩,h.n,
  ⟨h.nn.no,λ s v b=>by obtain⟨d,cs,f,e,g,c⟩:=h.nn.yes s v b;exact⟨d,cs,f,e,g,c.up l⟩,h.nn.len,h.nn.one⟩⟩
theorem Bg {α:Type} {f:α->Bool} {l:List α} (h:∀ d∈l,f d=false):l.find? f=none:=by
 rw[bs];intro d a;rw[h d a];decide
theorem UM {w:World} {B:Nat} {b:List (ByteArray × Value)} {l:List bu} (h:MO w B b l) (s:ByteArray) (at_:List ByteArray) :
  (di b s=none/\Eo l s at_=(0,5))\/∃ d cs,di b s=some (.agg cs.toArray)/\nP w B d cs/\d∈l/\Eo l s at_=if mZ d.loops at_ then (d.kind,0) else (0,5):=by
 cases hg:di b s with
 | none =>
  refine .inl ⟨rfl,?_⟩;unfold Eo;rw[Bg (λ d j=>by have:=h.no s hg d j;simp[this])]
 | some v =>
  obtain⟨d,cs,e,g,k,i⟩:=h.yes s v hg;refine .inr ⟨d,cs,by rw[k],i,e,?_⟩;unfold Eo;cases hb:mZ d.loops at_ with
  | false =>
   rw[Bg (λ x a=>by
    by_cases hq:x.nm=s
    .have:=Ju (f:=bu.nm) h.one a e (by rw[hq,g]);subst this;simp[hb]
    .simp[hq])]
   rfl
  | true =>
   cases hf:l.find? (λ c=>decide (c.nm=s) && mZ c.loops at_) with
   | none=>exact absurd (bs.1 hf d e) (by simp[g,hb])
   | some x =>
    have a:=bz hf;rw[Bool.and_eq_true,decide_eq_true_iff] at a;have:=Ju (f:=bu.nm) h.one (bA hf) e (by rw[a.1,g]);subst this;rfl
theorem UN {w:World} {B:Nat} {a:List (ByteArray × Value)} {l:List bU} (h:Lr w B a l) (s:ByteArray) (at_:List ByteArray) :
  (di a s=none/\Ep l s at_=none)\/∃ d cs,di a s=some (.agg cs.toArray)/\nO w B d cs/\d∈l/\Ep l s at_=if mZ d.loops at_ then some (d.loops ++ [d.nm]) else none:=by
 cases hg:di a s with
 | none =>
  refine .inl ⟨rfl,?_⟩;unfold Ep;rw[Bg (λ d i=>by have:=h.no s hg d i;simp[this])]
 | some v =>
  obtain⟨d,cs,b,e,j,g⟩:=h.yes s v hg;refine .inr ⟨d,cs,by rw[j],g,b,?_⟩;unfold Ep;cases hf:l.find? (λ n=>decide (n.nm=s)) with
  | none=>exact absurd (bs.1 hf d b) (by simp[e])
  | some x =>
   have c:=bz hf;rw[decide_eq_true_iff] at c;have:=Ju (f:=bU.nm) h.one (bA hf) b (by rw[c,e]);subst this;rfl
theorem acb (e:Ex) (a:List bu) (b:List bU) (l:e.k=1) (n t:List (ByteArray × Value)) (d f B:Nat) (at_:List ByteArray) (A:Option Addr) (c:Nat) (cs:List Value) (w:World) (h:bC w B e cs) (u:SX w B d f n t a b) (F:at_.length<=maxLen) (k:dA w B A at_) (J:at_.length<=c) (v:B<=w.heap.size) :
  CS 218 #[.agg #[.map (some d),.map (some f)],.agg cs.toArray,bh A at_.length c] w (.tuple #[bd be (e.kind a b at_).1,bd be (e.kind a b at_).2]):=by
 have s:=qh h;obtain⟨H,G,K,r,h,x,m⟩:=h;rename_i A1 c1 A2 c2 cs;have p:=qh (show e.kind a b at_=(e.v.k,0) by rw[yQ,if_pos l]);have q:(e.k == 1)=true:=by rw[l];rfl
 clear h x m u k v l;show Calls lM 218 #[.agg #[.map (some d),.map (some f)],.agg (Ag e A1 c1 A2 e.ar.length c2),bh A at_.length c] w _;go_enter func218,ntmps218;go_upto_region 1 with (fail);obtain⟨W,g⟩:=aG (((w.alloc (bj #[.map (some d),.map (some f)] 162 (0,0))).alloc (.cells (Ag e A1 c1 A2 e.ar.length c2) 67 (0,0))));have i:DD w W:=by rw[g];exact (((Below.refl _ w).alloc (bm _) _).alloc (by simp) _)
 have B0:ah W (w.heap.size) 162 #[.map (some d),.map (some f)]:=by
  rw[g];have:=ah.new w 162 #[.map (some d),.map (some f)];have:=this.alloc (.cells (Ag e A1 c1 A2 e.ar.length c2) 67 (0,0));exact this
 have B1:ah W (w.heap.size+1) 67 (Ag e A1 c1 A2 e.ar.length c2):=by
  rw[g];have:=ah.new (w.alloc (bj #[.map (some d),.map (some f)] 162 (0,0))) 67 (Ag e A1 c1 A2 e.ar.length c2)
  rwa [bq] at this
 have j:W.heap.size=w.heap.size+2:=by rw[g];simp
 rw[<- g];clear g j;obtain⟨M,E,I,L,C,D,y,z⟩:=ah.c8 B1;clear B0 B1;go_wp2_with fail;go_ret2;exact⟨by rw[p.o];rfl,i⟩
theorem acd (e:Ex) (a:List bu) (b:List bU) (j:e.k=3) (x D:List (ByteArray × Value)) (f g B:Nat) (at_:List ByteArray) (A:Option Addr) (c:Nat) (cs:List Value) (w:World) (k:bC w B e cs) (G:SX w B f g x D a b) (y:at_.length<=maxLen) (i:dA w B A at_) (T:at_.length<=c) (s:B<=w.heap.size) :
  CS 218 #[.agg #[.map (some f),.map (some g)],.agg cs.toArray,bh A at_.length c] w (.tuple #[bd be (e.kind a b at_).1,bd be (e.kind a b at_).2]):=by
 have C:=qh k;obtain⟨R,Q,U,z,k,H,v⟩:=k;rename_i A1 c1 A2 c2 cs;have r:=qh (show e.kind a b at_=if Lib.containsS at_ e.nm then (2,0) else (0,5) by rw[yQ,if_neg (by omega),if_neg (by omega),if_pos j]);have u:(e.k == 1)=false:=by rw[j];rfl
 have E:(e.k == 2)=false:=by rw[j];rfl
 have I:(e.k == 3)=true:=by rw[j];rfl
 obtain⟨q,o⟩:=af (Lib.containsS at_ e.nm);have n:=qh o;have t:=qh (λ w' (F:DD w w')=>uy A c B at_ e.nm w' y (i.below (F.mono s)));clear k H v G i s o j;show Calls lM 218 #[.agg #[.map (some f),.map (some g)],.agg (Ag e A1 c1 A2 e.ar.length c2),bh A at_.length c] w _;go_enter func218,ntmps218;go_upto_region 1 with (fail);obtain⟨W,h⟩:=aG (((w.alloc (bj #[.map (some f),.map (some g)] 162 (0,0))).alloc (.cells (Ag e A1 c1 A2 e.ar.length c2) 67 (0,0))));have d:DD w W:=by rw[h];exact (((Below.refl _ w).alloc (bm _) _).alloc (by simp) _)
 have B0:ah W (w.heap.size) 162 #[.map (some f),.map (some g)]:=by
  rw[h];have:=ah.new w 162 #[.map (some f),.map (some g)];have:=this.alloc (.cells (Ag e A1 c1 A2 e.ar.length c2) 67 (0,0));exact this
 have B1:ah W (w.heap.size+1) 67 (Ag e A1 c1 A2 e.ar.length c2):=by
  rw[h];have:=ah.new (w.alloc (bj #[.map (some f),.map (some g)] 162 (0,0))) 67 (Ag e A1 c1 A2 e.ar.length c2)
  rwa [bq] at this
 have m:W.heap.size=w.heap.size+2:=by rw[h];simp
 rw[<- h];clear h m;obtain⟨M,P,S,V,N,O,J,L⟩:=ah.c8 B1;clear B0 B1;go_wp2_with fail;refine (t.o W d).mono ?_;rw[n.o];rintro p K ⟨rfl,rfl⟩;cases q
 .have l:=qh (show e.kind a b at_=(0,5) by rw[r.o,n.o];rfl);go_wp2_with fail;go_ret2;exact⟨by rw[l.o];rfl,d⟩
 .have l:=qh (show e.kind a b at_=(2,0) by rw[r.o,n.o];rfl);go_wp2_with fail;go_ret2;exact⟨by rw[l.o];rfl,d⟩
theorem ace (e:Ex) (a:List bu) (b:List bU) (y:e.k=2) (lC lI:List (ByteArray × Value)) (l n B:Nat) (at_:List ByteArray) (A:Option Addr) (c:Nat) (cs:List Value) (w:World) (C:bC w B e cs) (F:SX w B l n lC lI a b) (ha:at_.length<=maxLen) (u:dA w B A at_) (hc:at_.length<=c) (P:B<=w.heap.size) :
  CS 218 #[.agg #[.map (some l),.map (some n)],.agg cs.toArray,bh A at_.length c] w (.tuple #[bd be (e.kind a b at_).1,bd be (e.kind a b at_).2]):=by
 have Z:=qh C;obtain⟨hn,hs,hl,ag,C,hr,hi⟩:=C;rename_i A1 c1 A2 c2 cs;have E:=qh (show e.kind a b at_=Eo a e.nm at_ by rw[yQ,if_neg (by omega),if_pos y]);have ab:(e.k == 1)=false:=by rw[y];rfl
 have aa:(e.k == 2)=true:=by rw[y];rfl
 have N:=qh hn;have p:=qh F;have i:=qh (bn ha (bn u (bn hc P)));have HN:=qh (UM F.cc e.nm at_);clear C hr hi F u P y;show Calls lM 218 #[.agg #[.map (some l),.map (some n)],.agg (Ag e A1 c1 A2 e.ar.length c2),bh A at_.length c] w _;go_enter func218,ntmps218;go_upto_region 1 with (fail);obtain⟨W,o⟩:=aG (((w.alloc (bj #[.map (some l),.map (some n)] 162 (0,0))).alloc (.cells (Ag e A1 c1 A2 e.ar.length c2) 67 (0,0))));have k:DD w W:=by rw[o];exact (((Below.refl _ w).alloc (bm _) _).alloc (by simp) _)
 have B0:ah W (w.heap.size) 162 #[.map (some l),.map (some n)]:=by
  rw[o];have:=ah.new w 162 #[.map (some l),.map (some n)];have:=this.alloc (.cells (Ag e A1 c1 A2 e.ar.length c2) 67 (0,0));exact this
 have B1:ah W (w.heap.size+1) 67 (Ag e A1 c1 A2 e.ar.length c2):=by
  rw[o];have:=ah.new (w.alloc (bj #[.map (some l),.map (some n)] 162 (0,0))) 67 (Ag e A1 c1 A2 e.ar.length c2)
  rwa [bq] at this
 have G:W.heap.size=w.heap.size+2:=by rw[o];simp
 rw[<- o];clear o G;obtain⟨iE,iF,iG,iH,iI,iJ,iK,gX⟩:=ah.c8 B1;clear B1;have R:=qh (p.o.c.below k p.o.c.lt);have ad:W.cell? ⟨w.heap.size,0,none⟩=some (.map (some l)):=B0.cell 0;rcases HN.o with ⟨t,r⟩ | ⟨d,ds,t,hd,X,r⟩
 .skip
  have m:(bp 159 (.map (some l)) (bf e.nm) true).run lM W = .ok (.tuple #[.agg #[bf ⟨#[]⟩,bd be 0,bh none 0 0],bk false]) W:=by
   have h:=R.o.look underlying159 (zeroCell W) N.o;rw[t] at h;exact h
  have z:=qh r;clear r t;go_upto_region 6 with (fail);obtain⟨W2,g⟩:=aG (W.alloc (bj #[bf ⟨#[]⟩,bd be 0,bh none 0 0] 51 (0,0)));have j:DD W W2:=g▸(Below.refl _ W).alloc (bm _) _;have f:=k.trans (j.mono k.size);have B2:ah W2 W.heap.size 51 #[bf ⟨#[]⟩,bd be 0,bh none 0 0]:=g▸ah.new W _ _;rw[<- g];clear g m;have v:=qh (show e.kind a b at_=(0,5) by rw[E.o,z.o]);clear j B2;go_wp2_with (fail);go_ret2;exact⟨by rw[v.o];rfl,f⟩
 .obtain⟨⟨A',c',rfl,O,ac⟩,ae,x,J⟩:=hd;have Q:=qh (bn O x);clear O x J;have m:(bp 159 (.map (some l)) (bf e.nm) true).run lM W = .ok (.tuple #[.agg #[bf d.nm,bd be d.kind,bh A' d.loops.length c'],bk true]) W:=by
   have h:=R.o.look underlying159 (zeroCell W) N.o;rw[t] at h;exact h
  have z:=qh r;clear r t;go_upto_region 6 with (fail);obtain⟨W2,g⟩:=aG (W.alloc (bj #[bf d.nm,bd be d.kind,bh A' d.loops.length c'] 51 (0,0)));have j:DD W W2:=g▸(Below.refl _ W).alloc (bm _) _;have f:=k.trans (j.mono k.size);have B2:ah W2 W.heap.size 51 #[bf d.nm,bd be d.kind,bh A' d.loops.length c']:=g▸ah.new W _ _;rw[<- g];clear g m;obtain⟨q,I⟩:=af (mZ d.loops at_);have L:=qh I;have D:=qh (show Calls lM 245 #[bh A' d.loops.length c',bh A at_.length c] W2 λ e H=>e = bl (bk q)/\DD W2 H by
   have h:=xG d.loops at_ A' c' A c B W2 Q.o.2 i.o.1 (Q.o.1.below (f.mono i.o.2.2.2)) (i.o.2.1.below (f.mono i.o.2.2.2)) i.o.2.2.1 (bo i.o.2.2.2 f.size);rw[I] at h;exact h)
  have s:=qh B2;have Y:W2.cell? ⟨W.heap.size,0,none⟩=some (bf d.nm):=B2.cell 0;have xq:W2.cell? ⟨W.heap.size,1,none⟩=some (bd be d.kind):=B2.cell 1;have U:W2.cell? ⟨W.heap.size,2,none⟩=some (bh A' d.loops.length c'):=B2.cell 2;clear j I B2;go_wp2_with fail;refine D.o.mono ?_;rintro M V ⟨rfl,K⟩;have T:=f.trans (K.mono f.size);have S:=s.o.below K s.o.lt;clear Y xq U;have v1:V.cell? ⟨W.heap.size,1,none⟩=some (bd be d.kind):=S.cell 1;clear K S;cases q
  .have v:=qh (show e.kind a b at_=(0,5) by rw[E.o,z.o,L.o];rfl);go_wp2_with fail;go_ret2;exact⟨by rw[v.o];rfl,T⟩
  .have v:=qh (show e.kind a b at_=(d.kind,0) by rw[E.o,z.o,L.o];rfl);go_wp2_with fail;go_ret2;exact⟨by rw[v.o];rfl,T⟩
theorem JK:(lM.info? 3).map (λ i=>(i.zero,i.size,i.bytes))=some (some (.int .i64 0),1,8):=by kernel_rfl
theorem vw {w:World} {B' n:Nat} {e:TypeId} {v:Value} {l:List Int} (h:w.ownsRow B' e 1 v n (bK be l)):n=l.length/\∃ A c,v = bh A l.length c/\Reads w w.heap.size 1 A l.length (bK be l)/\∀ ad,A=some ad->B'<=ad.block:=by
 obtain⟨i,f⟩:=id h;have k:n=l.length:=by rw[uQ] at i;omega
 subst k;refine⟨rfl,?_⟩;rcases f with ⟨rfl,j⟩ | ⟨g,a,b,rfl,d,q,e3,o,p⟩
 .have m:l = []:=bB j;subst m;exact⟨none,0,rfl,Reads.none_,λ _ h=>by cases h⟩
 .exact⟨_,a,rfl,Reads.fB (c:=a) h,λ ad h=>by injection h with h;rw[<- h];exact d⟩
theorem oL {w:World} {B' n c:Nat} {A:Option Addr} {e:TypeId} {l:List Int} (h:w.ownsRow B' e 1 (bh A l.length c) n (bK be l)):Reads w w.heap.size 1 A l.length (bK be l)/\∀ ad,A=some ad->B'<=ad.block:=by
 obtain⟨-,A',c',e,h⟩:=vw h;injection e with e1 _ _;rw[e1];exact h
theorem Bh (xs:List Int) (a:Int):bK be (xs ++ [a])=bK be xs ++ [bd be a]:=by simp[bK]
theorem own_below {w w':World} {B size n:Nat} {e:TypeId} {v:Value} {xs:List Value} (h:w.ownsRow B e size v n xs) (j:DD w w'):w'.ownsRow B e size v n xs:=by
 refine⟨h.1,h.2.imp id ?_⟩;rintro ⟨a,c,b,f,g,i,e3⟩;have d:a<w.heap.size:=(h.lt a (by rw[f];rfl)).2;exact⟨a,c,b,f,g,by rw[j.block a d];exact i,e3⟩
theorem acf (op:Int):(jm op).2<=1099511627776:=by
 unfold jm
 repeat' split
 all_goals decide
def Qr (cells:List bu) (loops:List bU) (lC lI:List (ByteArray × Value)) (m1 m2:Nat) (e:Ex):Prop:=∀ (B:Nat) (at_:List ByteArray) (A:Option Addr) (c:Nat) (cs:List Value) (w:World),bC w B e cs->SX w B m1 m2 lC lI cells loops->at_.length<=maxLen->dA w B A at_->at_.length<=c->B<=w.heap.size ->
  CS 218 #[.agg #[.map (some m1),.map (some m2)],.agg cs.toArray,bh A at_.length c] w (.tuple #[bd be (e.kind cells loops at_).1,bd be (e.kind cells loops at_).2])
theorem acg (e:Ex) (b:List bu) (d:List bU) (y:e.k=4) (lC lI:List (ByteArray × Value)) (x C B:Nat) (at_:List ByteArray) (A:Option Addr) (c:Nat) (cs:List Value) (w:World) (hP:PX e) (hI:∀ a∈e.ar,Qr b d lC lI x C a) (Z:bC w B e cs) (hw:SX w B x C lC lI b d) (ha:at_.length<=maxLen) (P:dA w B A at_) (hc:at_.length<=c) (hB:B<=w.heap.size) :
  CS 218 #[.agg #[.map (some x),.map (some C)],.agg cs.toArray,bh A at_.length c] w (.tuple #[bd be (e.kind b d at_).1,bd be (e.kind b d at_).2]):=by
 have a3:=qh Z;obtain⟨hn,hs,hl,T,Z,hr,hi⟩:=Z;rename_i A1 c1 A2 c2 cs;have HK:=qh (show e.kind b d at_=if (je b d e.ar at_ []).1≠0 then (0,(je b d e.ar at_ []).1) else yL e.op (je b d e.ar at_ []).2 by rw[yQ,if_neg (by omega),if_neg (by omega),if_neg (by omega),if_neg (by omega)]);have a9:(e.k == 1)=false:=by rw[y];rfl
 have a6:(e.k == 2)=false:=by rw[y];rfl
 have bb:(e.k == 3)=false:=by rw[y];rfl
 have ba:(e.k == 5)=false:=by rw[y];rfl
 have ag:=qh hw;have l:=qh (bn ha (bn P (bn hc hB)));have HR:=qh (bn hr hi);have HI:=qh hI;have HA:=qh T;have X:=qh (bn (hP.op4 y) (hP.a4 y));obtain⟨i0,aD,aR,aw,ae⟩:=info_parts JK;unfold maxLen at T;clear Z hr hi hw P hB y hI hP;show Calls lM 218 #[.agg #[.map (some x),.map (some C)],.agg (Ag e A1 c1 A2 e.ar.length c2),bh A at_.length c] w _;go_enter func218,ntmps218;go_upto_region 1 with (fail);obtain⟨W,J⟩:=aG (((w.alloc (bj #[.map (some x),.map (some C)] 162 (0,0))).alloc (.cells (Ag e A1 c1 A2 e.ar.length c2) 67 (0,0))));have O:DD w W:=by rw[J];exact (((Below.refl _ w).alloc (bm _) _).alloc (by simp) _)
 have B0:ah W (w.heap.size) 162 #[.map (some x),.map (some C)]:=by
  rw[J];have:=ah.new w 162 #[.map (some x),.map (some C)];have:=this.alloc (.cells (Ag e A1 c1 A2 e.ar.length c2) 67 (0,0));exact this
 have B1:ah W (w.heap.size+1) 67 (Ag e A1 c1 A2 e.ar.length c2):=by
  rw[J];have:=ah.new (w.alloc (bj #[.map (some x),.map (some C)] 162 (0,0))) 67 (Ag e A1 c1 A2 e.ar.length c2)
  rwa [bq] at this
 have aE:W.heap.size=w.heap.size+2:=by rw[J];simp
 rw[<- J];obtain⟨aL,ar⟩:=ah.c2 B0;obtain⟨iE,iF,iG,iH,iI,iJ,iK,gX⟩:=ah.c8 B1;have m:DD W W:=Below.refl _ _;clear J aE;go_wp2_with fail;go_loopw [101,14] (λ i kd wr=>∃ (k:Nat) (v:Value) (n:List Int),k<=e.ar.length/\i = bd be k/\kd=v/\Hid (wr.ownsRow W.heap.size 3 1 v k (bK be n))/\Hid (je b d e.ar at_ []=je b d (e.ar.drop k) at_ n)/\DD W wr) (λ i _ _=>e.ar.length - (intOf i).toNat)
 case atStart=>exact⟨0,_,[],bE _,rfl,rfl,qh (bt _ _ _ _),qh (by rfl),m⟩
 case round =>
  obtain⟨k,v,n,y,rfl,rfl,HO,HD,m⟩:=hrel;obtain⟨U,A5,c5,rfl,-⟩:=vw HO.o;have aq:=qh U;clear U;have mg:=m.size;have o:DD w wr:=O.trans (m.mono O.size);have N:Below B w wr:=o.mono l.o.2.2.2;have C0:=B0.below m B0.lt;have C1:=B1.below m B1.lt;clear aL ar iE iF iG iH iI iJ iK gX;obtain⟨G,E⟩:=ah.c2 C0;obtain⟨jZ,a0,a2,aM,ap,ac,aa,ao⟩:=ah.c8 C1;by_cases hlt:k<e.ar.length
  .obtain⟨ad,ci,rfl,hb,F,f⟩:=bC.arg (HR.o.1.below N) (λ i h=>(HR.o.2 i h).keep N) hlt;obtain⟨a,t⟩:=af (e.ar[k]);have K:a∈e.ar:=by rw[<- t];exact bL hlt
   obtain⟨g,I⟩:=af (a.kind b d at_);obtain⟨M,V⟩:=g;have al:=qh I;have DI:=qh (show je b d (e.ar.drop k) at_ n=if V≠0 then (V,n) else je b d (e.ar.drop (k+1)) at_ (n ++ [M]) by
    rw[Na _ _ _ _ _ _ hlt,t,I])
   have Y:=qh hlt;have Q:=qh (λ w' h1 h2 h3 h4=>HI.o a K B at_ A c ci w' h1 h2 l.o.1 h3 l.o.2.2.1 h4);rw[t] at F;have qV:=qh F;obtain⟨a4,a5,a7,bc,ax,a1,am⟩:=F;rename_i A3 c3 A4 c4 a8;have qi:wr.cell? (ad.add (k*8))=some (bd be a.k):=f 0 _ rfl;have qW:wr.cell? ⟨(ad.add (k*8)).block,(ad.add (k*8)).off+1,none⟩=some (bd be a.op):=f 1 _ rfl;have xE:wr.cell? ⟨(ad.add (k*8)).block,(ad.add (k*8)).off+2,none⟩=some (bf a.nm):=f 2 _ rfl;have zX:wr.cell? ⟨(ad.add (k*8)).block,(ad.add (k*8)).off+3,none⟩=some (bd be a.v.k):=f 3 _ rfl;have zY:wr.cell? ⟨(ad.add (k*8)).block,(ad.add (k*8)).off+4,none⟩=some (bd be a.v.n):=f 4 _ rfl;have zZ:wr.cell? ⟨(ad.add (k*8)).block,(ad.add (k*8)).off+5,none⟩=some (bf a.v.s):=f 5 _ rfl;have Aa:wr.cell? ⟨(ad.add (k*8)).block,(ad.add (k*8)).off+6,none⟩=some (bh A3 a.v.l.length c3):=f 6 _ rfl;have Ac:wr.cell? ⟨(ad.add (k*8)).block,(ad.add (k*8)).off+7,none⟩=some (bh A4 a.ar.length c4):=f 7 _ rfl;clear ax a1 am f t K I;go_upto_region 25 with (fail);obtain⟨W3,q⟩:=aG (wr.alloc (.cells (Ag a A3 c3 A4 a.ar.length c4) 67 (0,0)));have s:DD wr W3:=q▸(Below.refl _ wr).alloc (bm _) _;have B3:ah W3 wr.heap.size 67 (Ag a A3 c3 A4 a.ar.length c4):=q▸ah.new wr _ _;have Hg:=qh (show W3.ownsRow W.heap.size 3 1 _ k (bK be n) from q▸HO.o.alloc _);rw[<- q];clear q qi qW xE zX zY zZ Aa Ac G E jZ a0 a2 aM ap ac aa ao;have D0:=C0.below s C0.lt;obtain⟨G,E⟩:=ah.c2 D0;obtain⟨Lu,LC,LD,LH,LJ,LK,LM,LP⟩:=ah.c8 B3;have L:DD w W3:=o.trans (s.mono o.size);have R:DD W W3:=m.trans (s.mono mg);go_wp2_with fail;refine (Q.o W3 (qV.o.keep (s.mono (bo l.o.2.2.2 o.size))) (ag.o.keep L l.o.2.2.2) (l.o.2.1.below (L.mono l.o.2.2.2)) (bo l.o.2.2.2 L.size)).mono ?_;rw[al.o];rintro en w4 ⟨rfl,H⟩;have an:=L.trans (H.mono L.size);have r:DD W w4:=R.trans (H.mono R.size);have sF:=qh (own_below Hg.o H);clear G E Lu LC LD LH LJ LK LM LP D0 B3 Q;by_cases h0:V=0;rotate_left
   .have bg:(V != 0)=true:=by simpa using h0
    have ng:=qh (show e.kind b d at_=(0,V) by rw[HK.o,HD.o,DI.o,if_pos h0,if_pos h0]);clear h0;go_wp2_with fail;go_ret2;exact⟨by rw[ng.o];rfl,an⟩
   .subst h0;have ak:=qh (show je b d e.ar at_ []=je b d (e.ar.drop (k+1)) at_ (n ++ [M]) by rw[HD.o,DI.o,if_neg (by decide)]);have z:∀ g,bN (.slice A5 n.length c5)=some g->W.heap.size<=g:=λ g I=>(sF.o.lt g I).1;have Nv:=qh z;clear z;go_wp2_with (at_builtin;refine wpList_append_own _ rfl _ _ 54 rfl W.heap.size 3 i0 (.int .i64 0) 1 8 underlying54 aD aR aw ae rfl (by decide) _ _ _ rfl (sF.o.alloc _) ⟨w4.heap.size,0,none⟩ 1 1 [.int .i64 M] rfl rfl ?c1 ?c2 ?c3 ?c4 ?c5 ?_)
    case c1=>intro j u hj;cases j <;> simp_all[go_sem]
    case c2=>intro u hu;simp only[bv] at hu;subst hu;rfl
    case c3=>exact bo Y.o HA.o
    case c4=>(have h:=bo (Nat.succ_le_of_lt Y.o) (bo X.o.2.2 (acf e.op));omega)
    case c5=>(have h:=r.size;simp;omega)
    intro v2 w5 p S _;have aZ:DD W w5:=(r.alloc (by have:=r.size;omega) _).grown S (by have:=r.size;simp;omega) (λ g I=>by have:=Nv.o g I;omega);have EO:=qh (show w5.ownsRow W.heap.size 3 1 v2 (k+1) (bK be (n ++ [M])) by rw[Bh];exact p);clear p S;go_wp2;go_roundw
    case rel=>exact⟨k+1,v2,n ++ [M],Y.o,by go_num,rfl,EO,ak,aZ⟩
    case measure =>
     have:=Y.o;simp[intOf];omega
  .have ay:k=e.ar.length:=by omega
   have av:=qh (show je b d e.ar at_ []=(0,n) by rw[HD.o,List.drop_eq_nil_of_le (by omega),je]);have D:n.length=e.ar.length:=by have:=aq.o;omega
   have ng:=qh (show e.kind b d at_=yL e.op n by rw[HK.o,av.o];exact if_neg (λ h=>h rfl));have ab:=qh (Qg e.op n A5 c5 wr.heap.size wr X.o.1.1 X.o.1.2 (by rw[D];exact X.o.2) (by rw[D];exact HA.o) (oL HO.o).1 (bm _));clear ay D;go_wp2_with fail;refine ab.o.mono ?_;rintro en w9 ⟨rfl,gK⟩;go_wp2_with fail;go_ret2;exact⟨by rw[ng.o];try rfl,o.trans (gK.mono o.size)⟩
theorem qB:(lM.info? 9).map (λ i=>(i.zero,i.size,i.bytes))=some (some (.string ByteArray.empty),1,16):=by kernel_rfl
theorem cloneS (l:List ByteArray) (A:Option Addr) (c B:Nat) (w:World) (j:dA w B A l) (n:l.length<=1099511627776) :
  Calls lM 38 #[bh A l.length c] w λ e w'=>∃ v,e = bl v/\w'.ownsRow w.heap.size 9 1 v l.length (dP l)/\DD w w':=by
 rcases Nat.eq_zero_or_pos l.length with h | h
 .have i:=bB h;subst i;cases A with
  | none=>exact (Tryz.slices_Clone_string_nil 0 c w).mono λ _ _ ⟨d,k⟩=>⟨_,d,bt _ _ _ _,k▸Below.refl _ _⟩
  | some a=>exact (Tryz.slices_Clone_string_zero a c w).mono λ _ _ ⟨v,d,f,_,g⟩=>⟨v,d,f,g⟩
 .obtain⟨b,o,rfl,-,m⟩:=j.plain h;refine (Tryz.slices_Clone_string b o l.length c l w (bm _) (by omega) (dA.cells m)).mono λ _ _ ⟨v,d,f,_,g⟩=>⟨v,d,?_,g⟩;rw[List.take_length] at f;exact f
theorem ach {w:World} {B n size g cap m:Nat} {e:TypeId} {xs:List Value} (h:w.ownsRow B e size (bh (some ⟨g,0,none⟩) m cap) n xs):n<=cap:=by
 rcases h.2 with ⟨h,-⟩ | ⟨d,a,b,c,-,-,f,-⟩
 .cases h
 .injection c with _ _ e3;omega
theorem Bi (l:List ByteArray) (s:ByteArray):dP (l ++ [s])=dP l ++ [bf s]:=by simp[dP]
theorem X8 {α:Type}:∀ (l:List α) (h:l.length=1) (b:0<l.length),l = [l[0]]
 | [a],_,_=>rfl
theorem kV (ad:Addr):ad.add 0=ad:=by unfold Addr.add;simp
theorem own_base {w:World} {B B' size n:Nat} {e:TypeId} {v:Value} {xs:List Value} (h:w.ownsRow B e size v n xs) (f:B'<=B):w.ownsRow B' e size v n xs:=by
 refine⟨h.1,h.2.imp id ?_⟩;rintro ⟨d,b,a,g,c,i⟩;exact⟨d,b,a,g,bo f c,i⟩
theorem aci (e:Ex) (f:List bu) (b:List bU) (C:e.k=5) (lC lI:List (ByteArray × Value)) (G y B:Nat) (at_:List ByteArray) (A:Option Addr) (c:Nat) (cs:List Value) (w:World) (hP:PX e) (hI:∀ a∈e.ar,Qr f b lC lI G y a) (al:∀ d∈b,d.loops.length<=1048576) (hx:bC w B e cs) (hw:SX w B G y lC lI f b) (ha:at_.length<=maxLen) (an:dA w B A at_) (hc:at_.length<=c) (hB:B<=w.heap.size) :
  CS 218 #[.agg #[.map (some G),.map (some y)],.agg cs.toArray,bh A at_.length c] w (.tuple #[bd be (e.kind f b at_).1,bd be (e.kind f b at_).2]):=by
 have aV:=qh hx;obtain⟨hn,hs,hl,bc,hx,hr,hi⟩:=hx;rename_i A1 c1 A2 c2 cs;have HK:=qh (show e.kind f b at_=(match Ep b e.nm at_ with
   | none=>(0,5)
   | some at'=>MZ f b e.ar at' e.op) by rw[yQ,if_neg (by omega),if_neg (by omega),if_neg (by omega),if_pos C];rfl)
 have a4:(e.k == 1)=false:=by rw[C];rfl
 have a1:(e.k == 2)=false:=by rw[C];rfl
 have a8:(e.k == 3)=false:=by rw[C];rfl
 have a7:(e.k == 5)=true:=by rw[C];rfl
 have PT:=qh hn;have R:=qh hw;have p:=qh (bn ha (bn an (bn hc hB)));have HN:=qh (UN hw.nn e.nm at_);have HP:=qh (bn (hP.op5 C) (hP.a5 C));have HR:=qh (bn hr hi);have HI:=qh hI;have SY:=qh al;obtain⟨i0,am,ao,ag,ab⟩:=info_parts qB;clear hx hr hi hw an hB C hI hP al;show Calls lM 218 #[.agg #[.map (some G),.map (some y)],.agg (Ag e A1 c1 A2 e.ar.length c2),bh A at_.length c] w _;go_enter func218,ntmps218;go_upto_region 1 with (fail);obtain⟨W,hW⟩:=aG (((w.alloc (bj #[.map (some G),.map (some y)] 162 (0,0))).alloc (.cells (Ag e A1 c1 A2 e.ar.length c2) 67 (0,0))));have J:DD w W:=by rw[hW];exact (((Below.refl _ w).alloc (bm _) _).alloc (by simp) _)
 have B0:ah W (w.heap.size) 162 #[.map (some G),.map (some y)]:=by
  rw[hW];have:=ah.new w 162 #[.map (some G),.map (some y)];have:=this.alloc (.cells (Ag e A1 c1 A2 e.ar.length c2) 67 (0,0));exact this
 have B1:ah W (w.heap.size+1) 67 (Ag e A1 c1 A2 e.ar.length c2):=by
  rw[hW];have:=ah.new (w.alloc (bj #[.map (some G),.map (some y)] 162 (0,0))) 67 (Ag e A1 c1 A2 e.ar.length c2)
  rwa [bq] at this
 have ax:W.heap.size=w.heap.size+2:=by rw[hW];simp
 rw[<- hW];clear hW ax;obtain⟨iE,iF,iG,iH,iI,iJ,iK,gX⟩:=ah.c8 B1;have Xd:=qh (R.o.n.below J R.o.n.lt);have Y:W.cell? ⟨w.heap.size,1,none⟩=some (.map (some y)):=B0.cell 1;rcases HN.o with ⟨E,hf⟩ | ⟨d,ds,E,hd,ac,hf⟩
 .skip
  have Z:(bp 160 (.map (some y)) (bf e.nm) true).run lM W = .ok (.tuple #[.agg #[bf ⟨#[]⟩,bh none 0 0],bk false]) W:=by
   have h:=Xd.o.look underlying160 (qZ W) PT.o;rw[E] at h;exact h
  have HF:=qh hf;clear hf E;go_upto_region 15 with (fail);obtain⟨W2,r⟩:=aG (W.alloc (bj #[bf ⟨#[]⟩,bh none 0 0] 184 (0,0)));have s:DD W W2:=r▸(Below.refl _ W).alloc (bm _) _;have n:=J.trans (s.mono J.size);have B2:ah W2 W.heap.size 184 #[bf ⟨#[]⟩,bh none 0 0]:=r▸ah.new W _ _;rw[<- r];clear r Z;have Q:=qh (show e.kind f b at_=(0,5) by rw[HK.o,HF.o]);clear s B2 B0 B1;go_wp2_with (fail);go_ret2;exact⟨by rw[Q.o];rfl,n⟩
 .obtain⟨⟨A',c',rfl,MR,a6⟩,bb,ap,aL⟩:=hd;have M:=qh (bn MR (bn ap (SY.o d ac)));clear MR ap aL ac;have Z:(bp 160 (.map (some y)) (bf e.nm) true).run lM W = .ok (.tuple #[.agg #[bf d.nm,bh A' d.loops.length c'],bk true]) W:=by
   have h:=Xd.o.look underlying160 (qZ W) PT.o;rw[E] at h;exact h
  have HF:=qh hf;clear hf E;go_upto_region 15 with (fail);obtain⟨W2,r⟩:=aG (W.alloc (bj #[bf d.nm,bh A' d.loops.length c'] 184 (0,0)));have s:DD W W2:=r▸(Below.refl _ W).alloc (bm _) _;have n:=J.trans (s.mono J.size);have B2:ah W2 W.heap.size 184 #[bf d.nm,bh A' d.loops.length c']:=r▸ah.new W _ _;rw[<- r];clear r Z;obtain⟨q,hq⟩:=af (mZ d.loops at_);have HQ:=qh hq;have aq:=qh (show Calls lM 245 #[bh A' d.loops.length c',bh A at_.length c] W2 λ e t=>e = bl (bk q)/\DD W2 t by
   have h:=xG d.loops at_ A' c' A c B W2 M.o.2.1 p.o.1 (M.o.1.below (n.mono p.o.2.2.2)) (p.o.2.1.below (n.mono p.o.2.2.2)) p.o.2.2.1 (bo p.o.2.2.2 n.size);rw[hq] at h;exact h)
  have B0:=B0.below s B0.lt;have B1:=B1.below s B1.lt;clear hq s iE iF iG iH iI iJ iK gX Y;obtain⟨iE,iF,iG,iH,iI,iJ,iK,gX⟩:=ah.c8 B1;obtain⟨xn,xq⟩:=ah.c2 B2;go_wp2_with fail;refine aq.o.mono ?_;rintro V W9 ⟨rfl,gK⟩;have dN:=n.trans (gK.mono n.size);have B0:=B0.below gK B0.lt;have B1:=B1.below gK B1.lt;have B2:=B2.below gK B2.lt;clear gK xn xq iE iF iG iH iI iJ iK gX;cases q
  .have Q:=qh (show e.kind f b at_=(0,5) by rw[HK.o,HF.o,HQ.o];rfl);clear B0 B1 B2;go_wp2_with fail;go_ret2;exact⟨by rw[Q.o];rfl,dN⟩
  .have N:=dN.mono p.o.2.2.2;have h1:0<e.ar.length:=by have:=HP.o.2;omega
   obtain⟨ad,ci,rfl,l,U,H⟩:=bC.arg (HR.o.1.below N) (λ i h=>(HR.o.2 i h).keep N) h1;obtain⟨a,O⟩:=af (e.ar[0]);have ae:a∈e.ar:=by rw[<- O];exact bL h1
   have P:e.ar = [a]:=by have h:=X8 e.ar HP.o.2 h1;rwa [O] at h
   have Q:=qh (show e.kind f b at_=if (a.kind f b (d.loops ++ [d.nm])).2≠0 then (0,(a.kind f b (d.loops ++ [d.nm])).2) else Il e.op (a.kind f b (d.loops ++ [d.nm])).1 by
    rw[HK.o,HF.o,HQ.o];show MZ f b e.ar (d.loops ++ [d.nm]) e.op=_;rw[P,MZ])
   obtain⟨g,E⟩:=af (a.kind f b (d.loops ++ [d.nm]));obtain⟨g1,g2⟩:=g;have S:=qh E;rw[O] at U;have aM:=U;obtain⟨aZ,a0,a2,a9,av,aR,ar⟩:=U;rename_i A3 c3 A4 c4 a3;have k:∀ j u,(aA a A3 c3 A4 c4)[j]?=some u->W9.cell? (ad.add j)=some u:=λ j u K=>by have h:=H j u K;rwa [Nat.zero_mul,kV] at h
   have qi:W9.cell? (ad)=some (bd be a.k):=k 0 _ rfl;have qW:W9.cell? ⟨(ad).block,(ad).off+1,none⟩=some (bd be a.op):=k 1 _ rfl;have xE:W9.cell? ⟨(ad).block,(ad).off+2,none⟩=some (bf a.nm):=k 2 _ rfl;have zX:W9.cell? ⟨(ad).block,(ad).off+3,none⟩=some (bd be a.v.k):=k 3 _ rfl;have zY:W9.cell? ⟨(ad).block,(ad).off+4,none⟩=some (bd be a.v.n):=k 4 _ rfl;have zZ:W9.cell? ⟨(ad).block,(ad).off+5,none⟩=some (bf a.v.s):=k 5 _ rfl;have Aa:W9.cell? ⟨(ad).block,(ad).off+6,none⟩=some (bh A3 a.v.l.length c3):=k 6 _ rfl;have Ac:W9.cell? ⟨(ad).block,(ad).off+7,none⟩=some (bh A4 a.ar.length c4):=k 7 _ rfl;clear av aR ar H O E P;clear h1 k HR;have qV:=qh aM;obtain⟨aD,Y⟩:=ah.c2 B0;have gX:W9.cell? ⟨w.heap.size+1,7,none⟩=some (bh (some ad) 1 c2):=by have h:=B1.cell 7;rwa [show ((Ag e A1 c1 (some ad) e.ar.length c2):Array Value)[7]?=some (bh (some ad) 1 c2) from by rw[HP.o.2];rfl] at h
   obtain⟨xn,xq⟩:=ah.c2 B2;have L:=qh (show ∀ w',DD W9 w'->w'.cell? ⟨w.heap.size,0,none⟩=some (.map (some G))/\w'.cell? ⟨w.heap.size,1,none⟩=some (.map (some y))/\w'.cell? ⟨w.heap.size+1,7,none⟩=some (bh (some ad) 1 c2)/\w'.cell? ⟨W.heap.size,0,none⟩=some (bf d.nm)/\w'.cell? ⟨W.heap.size,1,none⟩=some (bh A' d.loops.length c')/\w'.cell? ad=some (bd be a.k)/\w'.cell? ⟨ad.block,ad.off+1,none⟩=some (bd be a.op)/\w'.cell? ⟨ad.block,ad.off+2,none⟩=some (bf a.nm)/\w'.cell? ⟨ad.block,ad.off+3,none⟩=some (bd be a.v.k)/\w'.cell? ⟨ad.block,ad.off+4,none⟩=some (bd be a.v.n)/\w'.cell? ⟨ad.block,ad.off+5,none⟩=some (bf a.v.s)/\w'.cell? ⟨ad.block,ad.off+6,none⟩=some (bh A3 a.v.l.length c3)/\w'.cell? ⟨ad.block,ad.off+7,none⟩=some (bh A4 a.ar.length c4)/\DD W9 w' from λ w' l=>⟨Below.cell_of l aD,Below.cell_of l Y,Below.cell_of l gX,Below.cell_of l xn,Below.cell_of l xq,Below.cell_of l qi,Below.cell_of l qW,Below.cell_of l xE,Below.cell_of l zX,Below.cell_of l zY,Below.cell_of l zZ,Below.cell_of l Aa,Below.cell_of l Ac,l⟩);have z:DD W9 W9:=Below.refl _ _;have X9:∀ o,DD W9 (W9.alloc o).drew:=λ o=>(z.alloc (bm _) _).drew;have F:B<=W9.heap.size:=bo p.o.2.2.2 dN.size;have aE:=qh (HI.o a ae);have K1:=qh (show ∀ w',DD W9 w'->Calls lM 38 #[bh A' d.loops.length c'] w' λ V t=>∃ v,V = bl v/\t.ownsRow W9.heap.size 9 1 v d.loops.length (dP d.loops)/\DD W9 t/\DD w' t from λ w' l =>
    (cloneS d.loops A' c' B w' (M.o.1.below (N.trans (l.mono F))) (by have:=M.o.2.2;omega)).mono λ _ _ ⟨v,he,ho,C⟩=>⟨v,he,own_base ho l.size,l.trans (C.mono l.size),C⟩)
   have K3:=qh (show ∀ w' g D,DD W9 w'->w'.ownsRow W9.heap.size 9 1 (bh (some ⟨g,0,none⟩) (d.loops.length+1) D) (d.loops.length+1) (dP d.loops ++ [bf d.nm])->Calls lM 218 #[.agg #[.map (some G),.map (some y)],.agg (Ag a A3 c3 A4 a.ar.length c4),bh (some ⟨g,0,none⟩) (d.loops.length+1:Nat) D] w' λ V t=>V = bl (.tuple #[bd be g1,bd be g2])/\DD W9 t from by
    intro w' g D l ho;have ba:=N.trans (l.mono F);have ay:=dN.trans (l.mono dN.size);have x:(d.loops ++ [d.nm]).length=d.loops.length+1:=by simp
    have h:=aE.o w'.heap.size (d.loops ++ [d.nm]) (some ⟨g,0,none⟩) D _ w' ((qV.o.keep (l.mono F)).up (bo F l.size)) ((R.o.keep ay p.o.2.2.2).up (bo F l.size)) (by rw[x];have:=M.o.2.2;unfold maxLen;omega) (by rw[dA,Bi,x];exact Reads.fB ho) (by rw[x];exact ach ho) (bm _);rw[x,S.o] at h;exact h.mono λ _ _ ⟨he,C⟩=>⟨he,l.trans (C.mono l.size)⟩)
   clear ae;go_upto_region 17 with (fail);go_region_held3 (λ w'=>w'.cell? ⟨w.heap.size,0,none⟩=some (.map (some G))/\w'.cell? ⟨w.heap.size,1,none⟩=some (.map (some y))/\w'.cell? ⟨w.heap.size+1,7,none⟩=some (bh (some ad) 1 c2)/\w'.cell? ⟨W.heap.size,0,none⟩=some (bf d.nm)/\w'.cell? ⟨W.heap.size,1,none⟩=some (bh A' d.loops.length c')/\w'.cell? ad=some (bd be a.k)/\w'.cell? ⟨ad.block,ad.off+1,none⟩=some (bd be a.op)/\w'.cell? ⟨ad.block,ad.off+2,none⟩=some (bf a.nm)/\w'.cell? ⟨ad.block,ad.off+3,none⟩=some (bd be a.v.k)/\w'.cell? ⟨ad.block,ad.off+4,none⟩=some (bd be a.v.n)/\w'.cell? ⟨ad.block,ad.off+5,none⟩=some (bf a.v.s)/\w'.cell? ⟨ad.block,ad.off+6,none⟩=some (bh A3 a.v.l.length c3)/\w'.cell? ⟨ad.block,ad.off+7,none⟩=some (bh A4 a.ar.length c4)/\DD W9 w')
    (first | exact L.o _ z | exact L.o _ z.drew | exact L.o _ m | exact L.o _ X | exact L.o _ T | exact L.o _ (m.alloc (bo z.size m.size) _) | exact L.o _ (X9 _))
    (first
     | (go_at_call 38;(with_reducible refine (K1.o _ z.drew).mono ?_);rintro e1 w1 ⟨v,rfl,I,m,uJ⟩)
     | (go_at_call 38;(with_reducible refine (K1.o _ (X9 _)).mono ?_);rintro e1 w1 ⟨v,rfl,I,m,uJ⟩;have aw:=Below.cell_of (a:=⟨W9.heap.size,0,none⟩) (v:=bf d.nm) uJ (by simp[go_sem]))
     | (refine step_append_lies _ rfl _ _ 22 rfl W9.heap.size 9 i0 (.string ByteArray.empty) 1 16 underlying22 am ao ag ab rfl (by decide) v d.loops.length (dP d.loops) rfl (I.alloc _) ⟨w1.heap.size,0,none⟩ 1 1 [.string d.nm] rfl rfl (by intro j u hj;cases j <;> simp_all[go_sem]) (by intro u K;simp only[bv] at K;subst K;rfl) (by decide) (by have:=M.o.2.2;unfold maxLen;omega) (by have:=M.o.2.2;omega) (by have:=m.size;first | omega | (simp;omega)) _ rfl ?_;intro g D w2 ak aa _ _;have X:=(m.alloc (bo z.size m.size) _).grown aa (by have:=m.size;simp;omega) (λ g E=>(I.lt g E).1))
     | (refine step_append_lies _ rfl _ _ 22 rfl W9.heap.size 9 i0 (.string ByteArray.empty) 1 16 underlying22 am ao ag ab rfl (by decide) v d.loops.length (dP d.loops) rfl I ⟨W9.heap.size,0,none⟩ 1 1 [.string d.nm] rfl rfl (by intro j u hj;cases j with | zero=>(have K:u = .string d.nm:=by simpa using hj.symm);subst K;exact aw | succ j=>simp at hj) (by intro u K;simp only[bv] at K;subst K;rfl) (by decide) (by have:=M.o.2.2;unfold maxLen;omega) (by have:=M.o.2.2;omega) (by have:=m.size;first | omega | (simp;omega)) _ rfl ?_;intro g D w2 ak aa _ _;have X:=m.grown aa m.size (λ g E=>(I.lt g E).1))
     | (go_at_call 218;(with_reducible refine (K3.o _ _ _ X ak).mono ?_);rintro e3 w3 ⟨rfl,T⟩))
   all_goals
    have yY:=dN.trans (T.mono dN.size);by_cases h0:g2=0;rotate_left
    .have bg:(g2 != 0)=true:=by simpa using h0
     have Bj:=qh (show e.kind f b at_=(0,g2) by rw[Q.o,S.o,if_pos h0]);clear h0 L HK Q;go_wp2_with fail;go_ret2;exact⟨by rw[Bj.o];rfl,yY⟩
    .subst h0;have Bj:=qh (show e.kind f b at_=Il e.op g1 by rw[Q.o,S.o];exact if_neg (λ h=>h rfl));have a5:w3.cell? ⟨w.heap.size+1,1,none⟩=some (bd be e.op):=Below.cell_of T (B1.cell 1);clear L HK Q;go_wp2_with fail;refine (Jw e.op g1 w3 HP.o.1.1 HP.o.1.2).mono ?_;rintro V w4 ⟨rfl,rfl⟩;go_wp2_with fail;go_ret2;exact⟨by rw[Bj.o];try rfl,yY⟩
end
section
open Go.RowKit
def Dq {α:Type} (T:TypeId) (k:Nat) (P:World->Nat->α->List Value->Prop) (w:World) (B:Nat) (v:Value) (l:List α):Prop:=
 ∃ cs,w.ownsRow B T k v l.length cs/\∀ i (h:i<l.length),P w B l[i] ((cs.drop (i*k)).take k)
def CP (w:World) (B:Nat) (d:bu) (cs:List Value):Prop:=
 ∃ A c,cs = [bf d.nm,bd be d.kind,bh A d.loops.length c]/\w.ownsRow B 9 1 (bh A d.loops.length c) d.loops.length (dP d.loops)/\d.nm.size<=maxLen/\d.loops.length<=maxLen/\∀ s∈d.loops,s.size<=maxLen
def EP (w:World) (B:Nat) (d:bU) (cs:List Value):Prop:=
 ∃ A c,cs = [bf d.nm,bh A d.loops.length c]/\w.ownsRow B 9 1 (bh A d.loops.length c) d.loops.length (dP d.loops)/\d.nm.size<=maxLen/\d.loops.length<=maxLen/\∀ s∈d.loops,s.size<=maxLen
theorem ER {w:World} {B n c:Nat} {A:Option Addr} {e:TypeId} {xs:List Value} (h:w.ownsRow B e 1 (bh A n c) n xs):n<=c:=by
 rcases h.2 with ⟨d,-⟩ | ⟨i,a,b,g,-,-,f,-⟩
 .injection d with _ f h2;omega
 .injection g with _ _ e3;omega
theorem aQ {w w':World} {B size n:Nat} {e:TypeId} {v:Value} {xs:List Value} (h:w.ownsRow B e size v n xs) (i:DD w w'):w'.ownsRow B e size v n xs:=by
 refine⟨h.1,h.2.imp id ?_⟩;rintro ⟨c,b,a,g,f,d,e3⟩;exact⟨c,b,a,g,f,(i.block c (ah.lt (t:=e) d)).trans d,e3⟩
theorem CP.at_ {w:World} {B:Nat} {d:bu} {cs:List Value} (h:CP w B d cs):nP w w.heap.size d cs:=by
 obtain⟨A,c,e,a,b,g,f⟩:=h;exact⟨⟨A,c,e,Reads.fB a,ER a⟩,b,g,f⟩
theorem EP.at_ {w:World} {B:Nat} {d:bU} {cs:List Value} (h:EP w B d cs):nO w w.heap.size d cs:=by
 obtain⟨A,c,e,a,b,g,f⟩:=h;exact⟨⟨A,c,e,Reads.fB a,ER a⟩,b,g,f⟩
structure Nw {α:Type} (T:TypeId) (P:World->Nat->α->List Value->Prop):Prop where
 later:∀ {w w':World} {B:Nat} {d:α} {cs:List Value},P w B d cs->DD w w'->P w' B d cs
 grown:∀ {w w':World} {B:Nat} {d:α} {cs:List Value} {v:Value} {k n:Nat} {xs:List Value},P w B d cs->w.ownsRow B T k v n xs->w.grownBy w' v.ownBlock->P w' B d cs
theorem ry {w w':World} {B k n f i:Nat} {T c:TypeId} {v u:Value} {xs ys:List Value} (h:w.ownsRow B c f u i ys) (j:w.ownsRow B T k v n xs) (l:c≠T) (m:w.grownBy w' v.ownBlock):w'.ownsRow B c f u i ys:=by
 refine h.kept m ?_;rcases j.2 with ⟨rfl,-⟩ | ⟨g,b,a,rfl,-,o,-⟩
 .rcases h.2 with ⟨rfl,-⟩ | ⟨p,d,e,rfl,-⟩
  .exact .inl rfl
  .right;simp[bN]
 .right;rw[show (Value.slice (some ⟨g,0,none⟩) n b).ownBlock=some g from rfl];exact gu h (show ah w g T a from o) l
theorem gB:Nw 51 CP where
 later:=by
  rintro w w' B d cs ⟨A,c,e,b,a⟩ h;exact⟨A,c,e,aQ b h,a⟩
 grown:=by
  rintro w w' B d cs v k n xs ⟨A,c,e,b,a⟩ f g;exact⟨A,c,e,ry b f (by decide) g,a⟩
theorem mJ:Nw 184 EP where
 later:=by
  rintro w w' B d cs ⟨A,c,e,b,a⟩ h;exact⟨A,c,e,aQ b h,a⟩
 grown:=by
  rintro w w' B d cs v k n xs ⟨A,c,e,b,a⟩ f g;exact⟨A,c,e,ry b f (by decide) g,a⟩
section
variable {α:Type} {T:TypeId} {k:Nat} {P:World->Nat->α->List Value->Prop} {w w':World} {B:Nat} {v v':Value} {l:List α}
theorem Dq.nil:Dq T k P w B (bh none 0 0) ([]:List α):=⟨[],bt _ _ _ _,λ i h=>by cases h⟩
theorem Dq.keep (b:Nw T P) (h:Dq T k P w B v l) (a:DD w w'):Dq T k P w' B v l:=by
 obtain⟨cs,e,d⟩:=h;exact⟨cs,aQ e a,λ i c=>b.later (d i c) a⟩
theorem Dq.snoc (c:Nw T P) {d:α} {cs ds:List Value} (a:w.ownsRow B T k v l.length cs) (j:∀ i (h:i<l.length),P w B l[i] ((cs.drop (i*k)).take k)) (o:P w B d ds) (p:ds.length=k)
  (n:w'.ownsRow B T k v' (l.length+1) (cs ++ ds)) (b:w.grownBy w' v.ownBlock):Dq T k P w' B v' (l ++ [d]):=by
 have m:cs.length=l.length*k:=a.1;refine⟨cs ++ ds,by rw[bO];exact n,λ i g=>?_⟩;rw[bO,List.length_singleton] at g;by_cases hlt:i<l.length
 .rw[List.getElem_append_left hlt];have f:(i+1)*k<=l.length*k:=Nat.mul_le_mul_right k hlt;rw[Nat.add_mul,Nat.one_mul] at f;rw[bR (by omega),List.take_append_of_le_length (by rw[List.length_drop];omega)];exact c.grown (j i hlt) a b
 .have e:i=l.length:=by omega
  subst e;rw[<- m,bR (by omega),List.drop_length,List.nil_append,List.take_of_length_le (by omega)];simp only[List.getElem_append_right (bm _),Nat.sub_self,List.getElem_cons_zero];exact c.grown o a b
end
theorem Dq.cells {w:World} {B:Nat} {A:Option Addr} {c:Nat} {l:List bu} (h:Dq 51 3 CP w B (bh A l.length c) l) (e:l.length<=maxLen):eX w w.heap.size A l:=by
 obtain⟨cs,d,b⟩:=h;exact⟨e,cs,Reads.fB d,λ i a=>(b i a).at_⟩
theorem Dq.ahY {w:World} {B:Nat} {A:Option Addr} {c:Nat} {l:List bU} (h:Dq 184 2 EP w B (bh A l.length c) l) (e:l.length<=maxLen):qj w w.heap.size A l:=by
 obtain⟨cs,d,b⟩:=h;exact⟨e,cs,Reads.fB d,λ i a=>(b i a).at_⟩
end
open Go.RowKit
attribute [local go_sem ↓] Go.wp_at_zero Go.wp_at_succ ld_item st_item ld_node st_node ld_ans st_ans ld_part st_part ld_rule st_rule ld_form st_form
theorem ahZ {e:Func} {s:Tmp} {tmps:Array Value} {T:TypeId} {a:World} {g:Nat} {j c1 c2 a0 a1 a2:Value} {Q:Ending->World->Prop} (n:e.results = #[.cell s T]) (i:T=51) (m:tmps[s]?.getD undef = bi (some ⟨g,0,none⟩)) (B:ah a g T #[j,c1,c2]) (h:∀ W,W=((((a.setCell ⟨g,0,none⟩ a0).setCell ⟨g,1,none⟩ a1).setCell ⟨g,2,none⟩ a2))->Q (bl (.agg #[a0,a1,a2])) W) :
  bodyPost lM e Q Exit.ret { tmps:=tmps,defers:=[] } ((((a.setCell ⟨g,0,none⟩ a0).setCell ⟨g,1,none⟩ a1).setCell ⟨g,2,none⟩ a2)):=by
 subst i;obtain⟨W,d⟩:=aG (((((a.setCell ⟨g,0,none⟩ a0).setCell ⟨g,1,none⟩ a1).setCell ⟨g,2,none⟩ a2)));have c:ah W g 51 #[a0,a1,a2]:=by rw[d];exact (((B.bP 0 _).bP 1 _).bP 2 _)
 have b:=d;rw[<- d];have f:W.cell? ⟨g,0,none⟩=some a0:=c.cell 0;have l:W.cell? ⟨g,1,none⟩=some a1:=c.cell 1;have k:W.cell? ⟨g,2,none⟩=some a2:=c.cell 2;exact bodyPost_ret (v:=.agg #[a0,a1,a2]) (by simp[results,n,go_sem,m,f,l,k]) rfl (h W b)
theorem yZ {w:World} {B size n:Nat} {e:TypeId} {v:Value} {xs:List Value} (h:w.ownsRow B e size v n xs) {p:Addr} (i:p.block<B) (u:Value):(w.setCell p u).ownsRow B e size v n xs:=by
 refine⟨h.1,h.2.imp id ?_⟩;rintro ⟨c,b,a,f,d,g,e3⟩;exact⟨c,b,a,f,d,(Below.heap_setCell w p u c (by omega)).trans g,e3⟩
theorem below3 {w c:World} {b g:Nat} (h:Below b w c) (a:b<=g) (e f d:Value):Below b w (((c.setCell ⟨g,0,none⟩ e).setCell ⟨g,1,none⟩ f).setCell ⟨g,2,none⟩ d):=
 (((h.setCell (p:=⟨g,0,none⟩) a _).setCell (p:=⟨g,1,none⟩) a _).setCell (p:=⟨g,2,none⟩) a _)
theorem ah.z3 {w:World} {g:Nat} {T:TypeId} {b c a:Value} (h:ah w g T #[b,c,a]):w.cell? ⟨g,0,none⟩=some b/\w.frozen? ⟨g,0,none⟩=false/\w.cell? ⟨g,1,none⟩=some c/\w.frozen? ⟨g,1,none⟩=false/\w.cell? ⟨g,2,none⟩=some a/\w.frozen? ⟨g,2,none⟩=false:=⟨h.cell 0,h.frozen 0,h.cell 1,h.frozen 1,h.cell 2,h.frozen 2⟩
theorem Iz {w:World} {B0 y T m2 m3:Nat} {x:jS} {f:aI} {N:List au} {K:aY} (h:aT w B0 y T m2 m3 x f N K) (n:Nat) (O:n<N.length) :
  Calls lM 110 #[bi (some ⟨y,0,none⟩),bd be n] w λ e w'=>(∃ cs,e = bl (.agg cs.toArray)/\CP w' w.heap.size (uC K N[n]) cs)/\DD w w':=by
 have G:=h.cap;have tq:=h.nodes.1;obtain⟨ad,A1,c1,A2,c2,A3,c3,A4,c4,A5,c5,B1,b1,B2,b2,B3,b3,A,c,hA,I,hit,m,B⟩:=h.pG O;have E:=qh (λ (w':World) (i:DD w w')=>X6 (h.keep i) n O);obtain⟨d,P⟩:=af (N[n]);rw[P] at hit m B E ⊢;have s:d.it.nm.size<=maxLen:=by cases hit;assumption
 have F:w.cell? ⟨(ad.add (n*23)).block,(ad.add (n*23)).off+1,none⟩=some (bf d.it.nm):=B 1 _ rfl;have D:w.cell? ⟨(ad.add (n*23)).block,(ad.add (n*23)).off+22,none⟩=some (bh A d.lo.length c):=B 22 _ rfl;obtain⟨V,l⟩:=af (SK K d);rw[l] at E;have C:=qh l;have o:=qh (bn m s);obtain⟨W,z⟩:=aG (w.alloc (bj #[bf ⟨#[]⟩,bd be 0,bh none 0 0] 51 (0,0)));have b:DD w W:=z▸az w _;have J:ah W w.heap.size 51 #[bf ⟨#[]⟩,bd be 0,bh none 0 0]:=z▸ah.new w _ _;have u:=qh J;have X:=qh (show ∀ w',DD w w'->Calls lM 38 #[bh A d.lo.length c] w' λ e t=>∃ v,e = bl v/\t.ownsRow w'.heap.size 9 1 v d.lo.length (dP d.lo)/\DD w' t from λ w' i =>
  (cloneS d.lo A c w.heap.size w' (o.o.1.1.1.below i) (by have:=o.o.1.2;omega)))
 have r:=qh (show ∀ w',DD w w'->w'.cell? ⟨y,5,none⟩=some (bh (some ad) N.length x.cn)/\w'.cell? ⟨(ad.add (n*23)).block,(ad.add (n*23)).off+1,none⟩=some (bf d.it.nm)/\w'.cell? ⟨(ad.add (n*23)).block,(ad.add (n*23)).off+22,none⟩=some (bh A d.lo.length c)/\DD w w' from λ w' i=>⟨Below.cell_of i I,Below.cell_of i F,Below.cell_of i D,i⟩);clear hit m B P hA h l s F D I J;go_enter func110,ntmps110;go_upto_region 1 with (fail);rw[<- z];clear z;go_region_held3 (λ w'=>w'.cell? ⟨y,5,none⟩=some (bh (some ad) N.length x.cn)/\w'.cell? ⟨(ad.add (n*23)).block,(ad.add (n*23)).off+1,none⟩=some (bf d.it.nm)/\w'.cell? ⟨(ad.add (n*23)).block,(ad.add (n*23)).off+22,none⟩=some (bh A d.lo.length c)/\DD w w')
  (first | exact r.o _ b | exact r.o _ b.drew | exact r.o _ g | exact r.o _ j | exact r.o _ (below3 j (bm _) _ _ _))
  (first
   | (go_at_call 167;(with_reducible refine (E.o _ b.drew).mono ?_);rintro F w1 ⟨rfl,a⟩;have a:DD W w1:=(Below.refl W.heap.size W).drew.trans a;have g:=b.trans (a.mono b.size))
   | (go_at_call 38;(with_reducible refine (X.o _ g).mono ?_);rintro D w2 ⟨v,rfl,k,p⟩;obtain⟨M,H,rfl⟩:=dX k;have j:=g.trans (p.mono g.size);have q:=(u.o.below a u.o.lt).below p (ah.lt (u.o.below a u.o.lt));obtain⟨S,z0,Z,Q,U,z2⟩:=ah.z3 q))
 all_goals
  try clear hHeld
  have Y:=qh k;have R:w.heap.size+1<=w1.heap.size:=by have:=a.size;have:=u.o.lt;omega
  clear S z0 Z Q U z2 k;go_wp2_with fail;refine ahZ results110 rfl rfl q (λ W9 L=>⟨⟨[bf d.it.nm,bd be V,bh M d.lo.length H],rfl,⟨M,H,by rw[<- C.o];rfl,?_,o.o.2,o.o.1.1.2.2.1,o.o.1.1.2.2.2⟩⟩,by rw[L];exact below3 j (bm _) _ _ _⟩);rw[L];exact own_base (yZ (yZ (yZ Y.o (by show w.heap.size<_;omega) _) (by show w.heap.size<_;omega) _) (by show w.heap.size<_;omega) _) (by omega)
theorem ES {w:World} {ad:Addr} {cs:List Value} (b:cs.length=23) (a:∀ j u,cs[j]?=some u->w.cell? (ad.add j)=some u):(wL 110 (bi (some ad))).run lM w = .ok (.agg cs.toArray) w:=
 wO underlying110 rfl (by rw[b];kernel_rfl) a
theorem Ny {w:World} {cs:List Value} (a:cs.length=23) (b:∀ v∈cs,v.oneCell'=true):(Hr 110 (bi (some ⟨w.heap.size,0,none⟩)) (.agg cs.toArray)).run lM (w.alloc (bj #[bd be 0,bf ⟨#[]⟩,bh none 0 0,bh none 0 0,bh none 0 0,bk false,bh none 0 0,bf ⟨#[]⟩,bd be 0,bd be 0,bd be 0,bd be 0,bf ⟨#[]⟩,bh none 0 0,bk false,bh none 0 0,bk false,bh none 0 0,bh none 0 0,bd be 0,bd be 0,bd be 0,bh none 0 0] 110 (0,0))) = .ok () (w.alloc (.cells cs.toArray 110 (0,0))):=
 wP (by rw[show cs.toArray.size=23 from a];kernel_rfl) (show 23=cs.toArray.size from a.symm) (by rw[<- Array.all_toList];exact bx.2 b)
theorem gZ {w:World} {g:Nat} {T:TypeId} {cs:List Value} (h:ah w g T cs.toArray):∀ j u,cs[j]?=some u->w.cell? ((⟨g,0,none⟩:Addr).add j)=some u:=λ j u a=>by
 have e:(⟨g,0,none⟩:Addr).add j=⟨g,j,none⟩:=by unfold Addr.add;split <;> simp_all
 rw[e,h.cell j];simpa using a
theorem ET (cs:List Value) (k:Int) (j:cs.length=23) (d:cs[0]?=some (bd be k)) (w:World) :
  CS 109 #[.agg cs.toArray] w (bk (decide (k=4) || decide (k=5))):=by
 obtain⟨W,a⟩:=aG (w.alloc (.cells cs.toArray 110 (0,0)));have c:DD w W:=a▸az w _;have i:W.cell? ⟨w.heap.size,0,none⟩=some (bd be k):=by
  have B:ah W w.heap.size 110 cs.toArray:=a▸ah.new w _ _;rw[B.cell 0];simpa using d
 clear d;by_cases h4:k=4
 .subst h4;go_enter func109,ntmps109;go_upto_region 1 with (fail);rw[<- a];clear a;go_wp2;go_ret;exact⟨rfl,c⟩
 .have f:(k == 4)=false:=by simp[h4]
  obtain⟨b,h⟩:=af ((k == 5));have g:=qh (show (decide (k=4) || decide (k=5))=b by rw[decide_eq_false h4,<- h];by_cases h5:k=5 <;> simp[h5]);rw[g.o];clear h4;go_enter func109,ntmps109;go_upto_region 1 with (fail);rw[<- a];clear a;go_wp2;go_ret;exact⟨rfl,c⟩
theorem Nz {N:List au} {K:aY} {keep:Nat->Bool} {k:Nat} (a:k<N.length):o8 N K keep (k+1)=if (EJ N[k] && keep k)=true then o8 N K keep k ++ [uC K N[k]] else o8 N K keep k:=by
 unfold o8;rw[List.range_succ,List.filter_append,List.map_append,List.filter_cons,List.filter_nil];simp only[iD a];split
 .simp[iD a]
 .simp
theorem EU {N:List au} {K:aY} {keep:Nat->Bool} (k:Nat):(o8 N K keep k).length<=k:=by
 unfold o8;rw[List.length_map];exact bo (List.length_filter_le _ _) (by simp)
theorem NC:(lM.info? 51).map (λ i=>(i.zero,i.size,i.bytes))=some (some (.agg #[.string ⟨#[]⟩,.int .i64 0,.slice none 0 0]),3,48):=by kernel_rfl
theorem UO {w:World} {B0 gb m1 m2 m3:Nat} {x:jS} {f:aI} {N:List au} {K:aY} (h:aT w B0 gb m1 m2 m3 x f N K) (M:FuncId) (X:Array Value) (aw:∀ (a:Array Value) (W:World),(callFunc M a).run lM W = .ok (.enter M a) W) (keep:Nat->Bool)
  (Z:∀ (i:Nat) (w':World),i<N.length->DD w w'->CS M (#[bd be i] ++ X) w' (bk (keep i))) :
  Calls lM 67 #[bi (some ⟨gb,0,none⟩),.func (.func M) #[] X] w λ e w'=>(∃ v,e = bl v/\Dq 51 3 CP w' w.heap.size v (o8 N K keep N.length))/\DD w w':=by
 obtain⟨i0,ak,ao,ag,aa⟩:=info_parts NC;have aq:=h.cap;have tq:=h.nodes.1;have c5:w.cell? ⟨gb,5,none⟩=some (bh x.AN N.length x.cn):=h.blk.cell 5;have kF:=qh h;have al:=qh Z;obtain⟨AN,LQ⟩:=af (x.AN);have ab:=qh LQ;rw[LQ] at c5;clear h Z LQ;go_enter func67,ntmps67;go_wp2;clear c5;go_loopw [13,5] (λ i v wr=>∃ k:Nat,i = bd be k/\k<=N.length/\Dq 51 3 CP wr w.heap.size v (o8 N K keep k)/\DD w wr) (λ i _ _=>302 - (intOf i).toNat)
 case atStart=>exact⟨0,rfl,bE _,Dq.nil,Below.refl _ _⟩
 case round =>
  obtain⟨k,rfl,hk,t,hb⟩:=hrel;have t:=qh t;have hs:=hb.size;by_cases hlt:k<N.length
  .have JL:=qh (kF.o.keep hb);obtain⟨ad,A1,c1,A2,c2,A3,c3,A4,c4,A5,c5,B1,b1,B2,b2,B3,b3,A,c,hA,PU,hit,ap,hc⟩:=JL.o.pG hlt;obtain rfl:AN=some ad:=ab.o.symm.trans hA;obtain⟨d,hd⟩:=af (N[k]);have p:=qh (Nz (K:=K) (keep:=keep) hlt);rw[hd] at hc p;obtain⟨cs,n⟩:∃ cs:List Value,[bd be d.it.k,bf d.it.nm,bh A1 d.it.iff.length c1,bh A2 d.it.ph.length c2,bh A3 d.it.items.length c3,bk d.it.sh,bh A4 d.it.cnt.length c4,bf d.it.over,bd be d.it.ans.k,bd be d.it.ans.lo,bd be d.it.ans.hi,bd be d.it.ans.pl,bf d.it.ans.ls,bh B1 d.it.ans.only.length b1,bk d.it.ans.sh,bh B2 d.it.ans.rs.length b2,bk d.it.ans.need,bh B3 d.it.ans.ch.length b3,bh A5 d.it.cmp.length c5,bd be d.par,bd be d.jA,bd be d.dm,bh A d.lo.length c]=cs:=⟨_,rfl⟩;have Q:cs.length=23:=by subst n;rfl
   have R:cs[0]?=some (bd be d.it.k):=by subst n;rfl
   have JM:=ES (w:=wr) Q (ad:=ad.add (k*23)) (λ j u hu=>hc j u (by subst n;exact hu));have Qs:=Ny (w:=wr) Q (by subst n;simp[br]);obtain⟨W,hW⟩:=aG (wr.alloc (.cells cs.toArray 110 (0,0)));have C:DD wr W:=hW▸az wr _;have m:=hb.trans (C.mono hs);have av:(wL 110 (bi (some ⟨wr.heap.size,0,none⟩))).run lM W = .ok (.agg cs.toArray) W:=ES Q (gZ (hW▸ah.new wr _ _:ah W wr.heap.size 110 cs.toArray));have EW:=qh (ET cs d.it.k Q R W);have S:=qh (show (decide (d.it.k=4) || decide (d.it.k=5))=EJ d from rfl);rw[S.o] at EW;have HD:=qh hd;clear n Q R hit ap hc PU JL hA hd;go_upto_region 5 with (fail);rw[<- hW];clear JM Qs hW;obtain⟨b1,B⟩:=af (EJ d);obtain⟨b2,E⟩:=af (keep k);have J:=qh (λ w' D=>al.o k w' hlt D);rw[E] at J;rw[B] at EW;rw[B,E] at p;have O:=qh hlt;have UQ:=qh (λ w' D=>Iz (kF.o.keep (w':=w') D) k hlt);rw[show N[k]=d from HD.o] at UQ;clear B E S;cases b1
   .have H:=qh (p.o.trans (if_neg (by simp)));go_wp2_with (go_at_call 109;(with_reducible refine EW.o.mono ?_);rintro e1 w1 ⟨rfl,b⟩);go_roundw
    case rel=>exact⟨k+1,by go_num,O.o,by rw[H.o];exact t.o.keep gB (C.trans (b.mono C.size)),m.trans (b.mono m.size)⟩
    case measure =>
     have:=O.o;simp[intOf];omega
   .cases b2
    .have H:=qh (p.o.trans (if_neg (by simp)));go_wp2_with (first
      | (go_at_call 109;(with_reducible refine EW.o.mono ?_);rintro e1 w1 ⟨rfl,b⟩;have G:=m.trans (b.mono m.size))
      | (go_at_fn M;(with_reducible refine (J.o _ G).mono ?_);rintro e2 w2 ⟨rfl,o⟩))
     go_roundw
     case rel=>exact⟨k+1,by go_num,O.o,by rw[H.o];exact (t.o.keep gB (C.trans (b.mono C.size))).keep gB o,G.trans (o.mono G.size)⟩
     case measure =>
      have:=O.o;simp[intOf];omega
    .have H:=qh (p.o.trans (if_pos (by simp)));go_upto_region 6 with (first
      | (go_at_call 109;(with_reducible refine EW.o.mono ?_);rintro e1 w1 ⟨rfl,b⟩;have G:=m.trans (b.mono m.size))
      | (go_at_fn M;(with_reducible refine (J.o _ G).mono ?_);rintro e2 w2 ⟨rfl,o⟩))
     have l:=G.trans (o.mono G.size);have I:=(t.o.keep gB (C.trans (b.mono C.size))).keep gB o;have ae:=EU (N:=N) (K:=K) (keep:=keep) k;obtain⟨L,hL⟩:=af (o8 N K keep k);rw[hL] at I H ae;have Jv:=qh I;obtain⟨r,Y⟩:=af (uC K d);rw[Y] at UQ H;clear hL Y I t;go_upto_region 7 with (first
      | (go_at_call 110;(with_reducible refine (UQ.o _ l).mono ?_);rintro e3 w3 ⟨⟨ar,rfl,A9,c9,rfl,Ya⟩,U⟩;have y:=l.trans (U.mono l.size);obtain⟨xs,F,T⟩:=Jv.o.keep gB U;have ac:=y.size;have PV:=qh T;have V:=qh Ya;have Ar:=qh F;have OV:=F.alloc (bj #[bf r.nm,bd be r.kind,bh A9 r.loops.length c9] 51 (0,0));clear F T Ya)
      | (at_builtin;refine wpList_append_own _ rfl _ _ 40 rfl w.heap.size 51 i0 (.agg #[.string ⟨#[]⟩,.int .i64 0,.slice none 0 0]) 3 48 underlying40 ak ao ag aa rfl (by decide) _ _ _ rfl OV ⟨w3.heap.size,0,none⟩ 1 1 [.string r.nm,.int .i64 r.kind,.slice A9 r.loops.length c9] rfl rfl (by intro j u s;match j,s with | 0,s=>(cases s;simp[go_sem]) | 1,s=>(cases s;simp[go_sem]) | 2,s=>(cases s;simp[go_sem]) | j+3,s=>simp at s) (by simp[br]) (by unfold maxLen;omega) (by omega) (by first | omega | (simp;omega)) ?_;intro v4 w4 q z _))
     have Dt:=az w3 (bj #[bf r.nm,bd be r.kind,bh A9 r.loops.length c9] 51 (0,0));have P:=Dq.snoc gB (d:=r) OV (λ i hi=>gB.later (PV.o i hi) Dt) (gB.later ⟨A9,c9,rfl,own_base V.o.1 l.size,V.o.2⟩ Dt) rfl q z;have am:DD w w4:=(y.trans (Dt.mono ac)).grown z (by simp;omega) (λ g hg=>(OV.lt g hg).1);have sF:=qh P;clear P OV q z;go_wp2;go_roundw
     case rel=>exact⟨k+1,by go_num,O.o,by rw[H.o];exact sF.o,am⟩
     case measure =>
      have:=O.o;simp[intOf];omega
  .have e:k=N.length:=by omega
   subst e;have t:=qh t.o;go_wp2;go_ret;exact⟨⟨_,rfl,t.o⟩,hb⟩
end Go.Proofs.YtcnagconagpkcaaGreatDoor
