/- Lemmas. -/
import Derived.Test.YtcnagconagpkcaaGreatDoorZ18
import Derived.Deep.RegionLaw
open Go.Value renaming int->bN, string->bR, slice->bS, pointer->bX, slice->ck
open Go.IntKind renaming i64->bO
open Go.Ending renaming returned->b0
open Nat renaming le_trans->b4, zero_le->cc, le_refl->ce, lt_of_lt_of_le->cr
open And renaming intro->b5
open Go.Lib renaming itoa->ca, cut->cb, hid->cu
open List renaming length_append->cf, mem_cons->cg, getElem_mem->co, mem_singleton->cp, mem_iff_getElem->cq, getElem_append_left->ct, mem_append_left->cv, length_pos_iff->cw, length_singleton->cx, mem_append->cz, findIdx?_eq_some_iff_getElem->cA, append_assoc->cB, getElem_of_mem->cC, pairwise_cons->cD
open Decidable renaming not_not->cj
set_option maxHeartbeats 4000000
set_option maxRecDepth 100000
namespace Go.Proofs.YtcnagconagpkcaaGreatDoor
open Tryz
open Tryz renaming prog->lM
section
open Go.RowKit
attribute [local go_sem ↓] Go.wp_at_zero Go.wp_at_succ
theorem agc {α:Type}:∀ {cs:List α},cs.length=19->∃ q o f k j h l r m i e b d g p s a c n,cs = [q,o,f,k,j,h,l,r,m,i,e,b,d,g,p,s,a,c,n]
 | [q,o,f,k,j,h,l,r,m,i,e,b,d,g,p,s,a,c,n],_=>⟨q,o,f,k,j,h,l,r,m,i,e,b,d,g,p,s,a,c,n,rfl⟩
theorem anZ {α:Type}:∀ {cs:List α},cs.length=23->∃ u s j o n l p v q m f b e k t w a c r i g d h,cs = [u,s,j,o,n,l,p,v,q,m,f,b,e,k,t,w,a,c,r,i,g,d,h]
 | [u,s,j,o,n,l,p,v,q,m,f,b,e,k,t,w,a,c,r,i,g,d,h],_=>⟨u,s,j,o,n,l,p,v,q,m,f,b,e,k,t,w,a,c,r,i,g,d,h,rfl⟩
def BDx (t:TypeId) (ps:Array (Nat × Value)):Sem Value:=Instr.build t ps
def BSx (t:TypeId) (n:Nat) (ps:Array (Nat × Value)):Sem Value:=Instr.buildSlice t n ps
theorem bd_node (ρ:Operand->Value) (dst:Option Tmp) (a b c d e:Operand) (ty:TypeId) (pos:String) (after:Array Edge) (guard:Option (Nat × Bool)) :
  execOp ρ { dst,op:=.build 110 #[(0,a),(1,b),(2,c),(3,d),(4,e)],type:=ty,pos,after,guard } = (do pure (.value (<- BDx 110 #[(0,ρ a),(1,ρ b),(2,ρ c),(3,ρ d),(4,ρ e)]))):=by
 show (do pure (Next.value (<- BDx 110 ((#[(0,a),(1,b),(2,c),(3,d),(4,e)]:Array (Nat × Operand)).map λ (i,x)=>(i,ρ x)))))=_;rw[show ((#[(0,a),(1,b),(2,c),(3,d),(4,e)]:Array (Nat × Operand)).map λ (i,x)=>(i,ρ x)) = #[(0,ρ a),(1,ρ b),(2,ρ c),(3,ρ d),(4,ρ e)] by simp]
theorem bs_node (ρ:Operand->Value) (dst:Option Tmp) (a:Operand) (ty:TypeId) (pos:String) (after:Array Edge) (guard:Option (Nat × Bool)) :
  execOp ρ { dst,op:=.buildSlice 111 1 #[(0,a)],type:=ty,pos,after,guard } = (do pure (.value (<- BSx 111 1 #[(0,ρ a)]))):=by
 show (do pure (Next.value (<- BSx 111 1 ((#[(0,a)]:Array (Nat × Operand)).map λ (i,x)=>(i,ρ x)))))=_;rw[show ((#[(0,a)]:Array (Nat × Operand)).map λ (i,x)=>(i,ρ x)) = #[(0,ρ a)] by simp]
theorem agd {w:World} {cs:List Value} (a:cs.length=19) (p q r:Int) (A:Option Addr) (n c:Nat):(BDx 110 #[(0,.agg cs.toArray),(1,bN bO p),(2,bN bO q),(3,bN bO r),(4,bS A n c)]).run lM w = .ok (.agg (cs ++ [Value.int bO p,bN bO q,bN bO r,bS A n c]).toArray) w:=by
 obtain⟨v0,v1,v2,v3,b,v5,v6,v7,v8,v9,v10,v11,v12,v13,v14,v15,v16,v17,v18,rfl⟩:=agc a;kernel_rfl
theorem age {w:World} {cs:List Value} (d:cs.length=23):(BSx 111 1 #[(0,.agg cs.toArray)]).run lM w = .ok (bS (some ⟨w.heap.size,0,none⟩) 1 1) (w.alloc (.cells cs.toArray 110 (0,0))):=by
 obtain⟨v0,v1,v2,v3,f,v5,v6,v7,v8,v9,v10,v11,v12,v13,v14,v15,v16,v17,v18,c,b,e,a,rfl⟩:=anZ d;kernel_rfl
theorem add_eq (b:ItemD) (a:List au) (c f e:Int) (d:List ByteArray):b.add a c f e d=iZ b.items (a ++ [⟨b,c,f,e,d⟩]) a.length 0 (e+1) (if b.k=3 then d ++ [b.nm] else d):=by
 cases b;rw[ItemD.add];rfl
def zF (B0:Nat) (w:World) (B:Nat) (d:au) (cs:List Value):Prop:=
 B0<=B/\B0<=w.heap.size/\∃ uI A c,cs=uI ++ [bN bO d.par,bN bO d.jA,bN bO d.dm,bS A d.lo.length c]/\dW w B0 d.it uI/\w.ownsRow B 9 1 (bS A d.lo.length c) d.lo.length (dP d.lo)/\(∀ s∈d.lo,s.size<=maxLen)/\d.lo.length<=20
structure fG (B gb m1:Nat) (w w':World):Prop where
 os:w'.os=w.os
 tape:w'.tape=w.tape
 output:w'.output=w.output
 size:w.heap.size<=w'.heap.size
 old:∀ g,g<B->g≠gb->g≠m1->w'.heap[g]?=w.heap[g]?
 strs:∀ g cs,B<=g->ah w g 9 cs->ah w' g 9 cs
structure lh (w:World) (B0 gb m1 m2 m3 B:Nat) (x:jS) (A:Option Addr) (c:Nat) (f:aI) (N N':List au):Prop where
 blk:ah w gb 115 #[bR f.nm,bN bO f.jo,bS x.AL f.ag.length x.cl,bS x.AS f.lists.length x.cs,bS x.AI f.items.length x.ci,bS A N.length c,.map (some m1),.map (some m2),.map (some m3)]
 row:Dq 110 23 (zF B0) w B (bS A N.length c) N
 by_:∃ kv,aO w m1 kv/\Qm kv N'/\kv.length<=N'.length
 ne:B0<=gb/\B0<=m1/\gb<B/\m1<B/\gb≠m1
 le:B<=w.heap.size
 len:N.length<=301
theorem fG.trans {B gb m1:Nat} {w w' w'':World} (h:fG B gb m1 w w') (k:fG B gb m1 w' w''):fG B gb m1 w w'':=
 ⟨k.os.trans h.os,k.tape.trans h.tape,k.output.trans h.output,b4 h.size k.size,λ g a b c=>(k.old g a b c).trans (h.old g a b c),λ g cs a b=>k.strs g cs a (h.strs g cs a b)⟩
theorem fG.of {B gb m1:Nat} {w w':World} (h:DD w w') (c:B<=w.heap.size):fG B gb m1 w w':=
 ⟨h.os,h.tape,h.output,h.size,λ g a _ _=>h.block g (by omega),λ g cs _ b=>b.below h b.lt⟩
theorem fG.below {B gb m1 B0:Nat} {w w':World} (h:fG B gb m1 w w') (c:B0<=gb) (b:B0<=m1) (d:B0<=B):Below B0 w w':=
 ⟨h.os,h.tape,h.output,h.size,λ g a=>h.old g (by omega) (by omega) (by omega)⟩
theorem fG.str {B gb m1 n:Nat} {w w':World} {v:Value} {xs:List Value} (h:fG B gb m1 w w') (c:w.ownsRow B 9 1 v n xs):w'.ownsRow B 9 1 v n xs:=by
 refine⟨c.1,c.2.imp id ?_⟩;rintro ⟨e,b,a,f,d,g,e3⟩;exact⟨e,b,a,f,d,h.strs e a d g,e3⟩
theorem fG.grown {B gb m1 k n:Nat} {w w':World} {v:Value} {xs:List Value} (d:w.ownsRow B 110 k v n xs) (c:w.grownBy w' v.ownBlock) (f:B<=w.heap.size):fG B gb m1 w w':=
 ⟨c.os,c.tape,c.output,c.size,λ g a _ _=>c.block g (by omega) (λ e=>by have:=(d.lt g e.symm).1;omega),λ g cs _ b=>b.grown c (λ e=>gu d b (by decide) e.symm)⟩
theorem fG.set {B gb m1:Nat} {w:World} (h:gb<B) (j:Nat) (u:Value):fG B gb m1 w (w.setCell ⟨gb,j,none⟩ u):=
 ⟨rfl,rfl,rfl,by simp[World.setCell],λ g _ b _=>Below.heap_setCell w _ u g b,λ g cs a b=>b.far (by show g≠gb;omega) u⟩
theorem fG.put {B gb m1:Nat} {w w':World} (h:m1<B) (d:w.grownBy w' (some m1)) (f:B<=w.heap.size):fG B gb m1 w w':=
 ⟨d.os,d.tape,d.output,d.size,λ g a _ c=>d.block g (by omega) (λ e=>c (by injection e)),λ g cs a b=>b.grown d (λ e=>by injection e;omega)⟩
theorem yC {B0:Nat}:Nw 110 (zF B0) where
 later:=by
  rintro w w' B d cs ⟨b,a,f,A,c,e,i,l,h⟩ j;exact⟨b,b4 a j.size,f,A,c,e,i.keep (j.mono a),aQ l j,h⟩
 grown:=by
  rintro w w' B d cs v k n xs ⟨b,a,f,A,c,e,i,l,h⟩ o m;exact⟨b,b4 a m.size,f,A,c,e,i.keep (um m a (λ g p=>b4 b (o.lt g p).1)),ry l o (by decide) m,h⟩
theorem zF.keep {B0 B gb m1:Nat} {w w':World} {d:au} {cs:List Value} (h:zF B0 w B d cs) (f:fG B gb m1 w w') (l:B0<=gb) (k:B0<=m1):zF B0 w' B d cs:=by
 obtain⟨g,a,i,A,c,e,b,m,j⟩:=h;exact⟨g,b4 a f.size,i,A,c,e,b.keep (f.below l k g),f.str m,j⟩
section
variable {w w':World} {B0 gb m1 m2 m3 B:Nat} {x:jS} {A:Option Addr} {c:Nat} {f:aI} {N N':List au}
theorem lh.later (h:lh w B0 gb m1 m2 m3 B x A c f N N') (a:DD w w'):lh w' B0 gb m1 m2 m3 B x A c f N N':=by
 obtain⟨e,b,d⟩:=h.by_;exact⟨h.blk.below a h.blk.lt,h.row.keep yC a,⟨e,b.below a b.lt,d⟩,h.ne,b4 h.le a.size,h.len⟩
theorem lh.push (h:lh w B0 gb m1 m2 m3 B x A c f N N') {d:au} {cs ds:List Value} {g a:Nat} (b:w.ownsRow B 110 23 (bS A N.length c) N.length cs) (v:∀ i (h:i<N.length),zF B0 w B N[i] ((cs.drop (i*23)).take 23)) (E:zF B0 w B d ds) (G:ds.length=23)
  (D:w'.ownsRow B 110 23 (bS (some ⟨g,0,none⟩) (N.length+1) a) (N.length+1) (cs ++ ds)) (j:w.grownBy w' (ck A N.length c).ownBlock) (H:N.length<=300) :
  lh (w'.setCell ⟨gb,5,none⟩ (bS (some ⟨g,0,none⟩) (N.length+1) a)) B0 gb m1 m2 m3 B x (some ⟨g,0,none⟩) a f (N ++ [d]) N'/\fG B gb m1 w (w'.setCell ⟨gb,5,none⟩ (bS (some ⟨g,0,none⟩) (N.length+1) a)):=by
 obtain⟨s,y,o,z,q⟩:=h.ne;have k:fG B gb m1 w w':=fG.grown b j h.le;have l:fG B gb m1 w' (w'.setCell ⟨gb,5,none⟩ (bS (some ⟨g,0,none⟩) (N.length+1) a)):=fG.set o 5 _;obtain⟨u,p,t⟩:=h.by_;have C:=h.blk.grown j (λ e=>by have:=(b.lt gb e.symm).1;omega);obtain⟨m,n,F⟩:=Dq.snoc yC b v E G D j;rw[cf,cx] at n;refine⟨⟨?_,⟨m,?_,λ i r=>(F i r).keep l s y⟩,⟨u,(p.same (k.old m1 z (λ e=>q e.symm) |> λ _=>j.block m1 p.lt (λ e=>by have:=(b.lt m1 e.symm).1;omega))).setCell (λ e=>q e.symm) _,t⟩,h.ne,?_,by simp;omega⟩,k.trans l⟩
 .have:=C.bP 5 (bS (some ⟨g,0,none⟩) (N.length+1) a);simpa using this
 .rw[cf,cx];exact yZ n o _
 .exact b4 h.le (b4 k.size l.size)
theorem lh.named (h:lh w B0 gb m1 m2 m3 B x A c f N N') (a:w.grownBy w' (some m1)) {N2:List au} (p:∃ b,aO w' m1 b/\Qm b N2/\b.length<=N2.length):lh w' B0 gb m1 m2 m3 B x A c f N N2/\fG B gb m1 w w':=by
 obtain⟨k,m,r,n,o⟩:=h.ne;have g:fG B gb m1 w w':=fG.put n a h.le;obtain⟨cs,d,l⟩:=h.row;refine⟨⟨h.blk.grown a (λ e=>o (by injection e)),⟨cs,d.kept a ?_,λ i j=>(l i j).keep g k m⟩,p,h.ne,b4 h.le a.size,h.len⟩,g⟩;cases hq:(ck A N.length c).ownBlock with
 | none=>exact .inl rfl
 | some q=>exact .inr (λ e=>by injection e with e;have:=(d.lt q hq).1;omega)
end
theorem Jd (N:List au) (d:au) (s:ByteArray):fA (N ++ [d]) s=if fA N s<0 then (if d.it.nm=s then (N.length:Int) else -1) else fA N s:=by
 unfold fA;rw[List.findIdx?_append];cases h:N.findIdx? (λ d=>decide (d.it.nm=s)) with
 | some i=>simp;omega
 | none =>
  by_cases e:d.it.nm=s
  .simp[e]
  .simp[e]
theorem aai {a:List (ByteArray × Value)} {N:List au} {d:au} (h:Qm a N) (b:fA N d.it.nm<0):Qm ((d.it.nm,bN bO (N.length:Nat)) :: a) (N ++ [d]):=by
 intro s;rw[di,Jd];by_cases e:d.it.nm=s
 .subst e;rw[if_pos rfl,if_pos b,if_pos rfl,if_neg (by omega)]
 .rw[if_neg e,if_neg e,h s];by_cases h0:fA N s<0
  .rw[if_pos h0,if_pos h0,if_pos (by decide)]
  .rw[if_neg h0,if_neg h0,if_neg h0]
theorem aaj {a:List (ByteArray × Value)} {N:List au} {d:au} (h:Qm a N) (b:¬ fA N d.it.nm<0):Qm a (N ++ [d]):=by
 intro s;rw[Jd,h s];by_cases h0:fA N s<0
 .have e:¬ d.it.nm=s:=λ e=>b (e▸h0);rw[if_pos h0,if_pos h0,if_neg e,if_pos (by decide)]
 .rw[if_neg h0,if_neg h0,if_neg h0]
end
section
open Go.RowKit
attribute [local go_sem ↓] Go.wp_at_zero Go.wp_at_succ ld_item st_item ld_node st_node ld_ans st_ans ld_part st_part ld_rule st_rule ld_form st_form bd_node bs_node
theorem dW.look {w:World} {B0:Nat} {d:ItemD} {cs:List Value} (h:dW w B0 d cs):cs.length=19/\(∀ v∈cs,v.oneCell'=true)/\∃ A3 c3,cs[0]?=some (bN bO d.k)/\cs[1]?=some (bR d.nm)/\cs[4]?=some (bS A3 d.items.length c3)/\wI w B0 A3 d.items/\d.items.length<=c3/\d.nm.size<=maxLen:=by
 cases h with
 | mk h1 h2 h4 h5 ha l1 l3 l4 l5 l6 l7 l8 hr hi=>exact⟨rfl,by simp[itC,XY,Value.oneCell'],_,_,rfl,rfl,rfl,⟨l8,_,hr,hi⟩,l3,l6⟩
theorem aak:(lM.info? 110).map (λ i=>(i.zero,i.size,i.bytes))=some (some (.agg #[.int .i64 0,.string ⟨#[]⟩,.slice none 0 0,.slice none 0 0,.slice none 0 0,.bool false,.slice none 0 0,.string ⟨#[]⟩,.int .i64 0,.int .i64 0,.int .i64 0,.int .i64 0,.string ⟨#[]⟩,.slice none 0 0,.bool false,.slice none 0 0,.bool false,.slice none 0 0,.slice none 0 0,.int .i64 0,.int .i64 0,.int .i64 0,.slice none 0 0]),23,352):=by kernel_rfl
theorem Wu {l:List ItemD} {N:List au} {a b:Int} {lo:List ByteArray} {k:Nat} (h:k<l.length):iZ (l.drop k) N a k b lo=if 300<N.length\/13<b then N else iZ (l.drop (k+1)) (l[k].add N a k b lo) a ((k+1:Nat):Int) b lo:=by
 rw[List.drop_eq_getElem_cons h,iZ];rfl
theorem aal {l:List ItemD} {N:List au} {a b:Int} {c:List ByteArray}:iZ (l.drop l.length) N a l.length b c=N:=by
 rw[List.drop_length,iZ]
def adp (B0 gb m1 m2 m3 B:Nat) (x:jS) (f:aI) (R:List au) (w w':World):Prop:=∃ A2 c2,lh w' B0 gb m1 m2 m3 B x A2 c2 f R R/\fG B gb m1 w w'
def aam (B0 gb m1 m2 m3 B:Nat) (x:jS) (f:aI) (items:List ItemD):Prop:=∀ (w:World) (N:List au) (A A' AL:Option Addr) (c c' cl:Nat) (par:Int) (dm:Nat) (lo:List ByteArray),lh w B0 gb m1 m2 m3 B x A c f N N->wI w B0 A' items->items.length<=c'->w.ownsRow B 9 1 (bS AL lo.length cl) lo.length (dP lo)->(∀ s∈lo,s.size<=maxLen)->dm<=14->lo.length<=dm ->
 Calls lM 111 #[bX (some ⟨gb,0,none⟩),bS A' items.length c',bN bO par,bN bO (dm:Nat),bS AL lo.length cl] w λ e w'=>e = b0 (.tuple #[])/\adp B0 gb m1 m2 m3 B x f (iZ items N par 0 dm lo) w w'
theorem O0 {B0 gb m1 m2 m3 B:Nat} {x:jS} {f:aI} {items:List ItemD} (Z:∀ it∈items,aam B0 gb m1 m2 m3 B x f it.items):aam B0 gb m1 m2 m3 B x f items:=by
 intro w N A A' T c c' V n dm b hA hit bL bf aD bE bB;obtain⟨i0,a5,be,aR,ax⟩:=info_parts qB;obtain⟨j0,bw,bk,bo,bj⟩:=info_parts aak;obtain⟨n1,n2,n3,n4,n5⟩:=hA.ne;have r:B0<=B:=b4 n1 (Nat.le_of_lt n3);have bl:=hit.1;unfold maxLen at bl;have K:=qh (b5 hit (b5 bf aD));have HR:=qh Z;obtain⟨R,hR⟩:=af (iZ items N n 0 dm b);have bn:=qh (show R=iZ (items.drop 0) N n (0:Nat) dm b from hR.symm);have bd:=qh hA;rw[hR];clear hA hit bf aD Z hR;go_enter func111,ntmps111;go_wp2;go_loopw [18] (λ i wr=>∃ (k:Nat) (l:List au) (A:Option Addr) (c:Nat),i = bN bO k/\k<=items.length/\Hid (R=iZ (items.drop k) l n k dm b)/\Hid (lh wr B0 gb m1 m2 m3 B x A c f l l)/\Hid (fG B gb m1 w wr)) (λ i _=>items.length+1 - (intOf i).toNat)
 case atStart=>exact⟨0,N,A,c,rfl,cc _,bn,bd,qh (fG.of (Below.refl _ _) bd.o.le)⟩
 case round =>
  obtain⟨k,l,A,c,rfl,hk,y,D,Y⟩:=hrel;by_cases hlt:k<items.length
  case neg =>
   obtain rfl:k=items.length:=by omega
   have HE:=qh (y.o.trans aal);go_wp2;go_end0;exact⟨rfl,A,c,HE.o▸D.o,Y.o⟩
  have y:=qh (y.o.trans (Wu hlt));have ay:Below B0 w wr:=Y.o.below n1 n2 r;obtain⟨ad,ci,rfl,H,P,I⟩:=aF.at_ (aF.keep (λ _ _ h=>h.keep ay) K.o.1 ay) hlt;have ae:=qh (HR.o _ (co hlt));obtain⟨d,hd⟩:=af (items[k]);rw[hd] at P y ae;obtain⟨F,aE,A3,c3,e0,e1,e4,aq,ar,ak⟩:=P.look;have ag:=yX (w:=wr) F I;have a4:=Ns (w:=wr) F aE;obtain⟨W,hW,oM,BW⟩:=box wr 59 ci.toArray;rw[<- hW] at a4;clear hW;have E:=D.o.le;have Y:=qh (Y.o.trans (fG.of oM E));have D:=qh (D.o.later oM);have bs:=oM.size;have M:=D.o.len;have bh:=qh (show ∀ w',DD wr w'\/fG B gb m1 W w'->wI w' B0 A3 d.items from λ w' hq=>by
   have:Below B0 wr w':=hq.elim (λ h=>h.mono (b4 r E)) (λ h=>(oM.mono (b4 r E)).trans (h.below n1 n2 r));exact aq.keep (λ _ _ h=>h.keep this) this)
  have aV:=qh hlt;have r5:=D.o.blk.cell 5;have qV:=qh (b5 e0 (b5 e1 (b5 e4 (P.keep (oM.mono (b4 r E))))));clear I H hd aq P hlt;go_upto_region 3 with (fail);clear ag a4;by_cases h3:300<l.length
  .have HE:=qh (y.o.trans (if_pos (.inl h3)));have g3:(300:Int)<l.length:=by omega
   have Q:decide ((300:Int)<l.length)=true:=decide_eq_true g3;have aM:decide (300<l.length)=true:=decide_eq_true h3;clear h3;go_wp2
   (try simp only[Exit.inBlock,Exit.then])
   refine bodyPost_ret (results_none rfl _ _ _) rfl ?_;exact⟨rfl,A,c,HE.o▸D.o,Y.o⟩
  have g3:¬ (300:Int)<l.length:=by omega
  have Q:decide ((300:Int)<l.length)=false:=decide_eq_false g3;have aM:decide (300<l.length)=false:=decide_eq_false h3;by_cases h13:13<dm
  .have HE:=qh (y.o.trans (if_pos (.inr (by omega))));have g4:(13:Int)<dm:=by omega
   have ba:decide ((13:Int)<dm)=true:=decide_eq_true g4;have av:decide (13<dm)=true:=decide_eq_true h13;clear h13;go_wp2
   (try simp only[Exit.inBlock,Exit.then])
   refine bodyPost_ret (results_none rfl _ _ _) rfl ?_;exact⟨rfl,A,c,HE.o▸D.o,Y.o⟩
  have g4:¬ (13:Int)<dm:=by omega
  have ba:decide ((13:Int)<dm)=false:=decide_eq_false g4;have av:decide (13<dm)=false:=decide_eq_false h13;have y:=qh (y.o.trans (if_neg (λ h=>h.elim h3 (λ h=>h13 (by omega)))));rw[add_eq] at y;go_upto_region 5 with (fail);clear g3 Q aM g4 ba av;obtain⟨ds,L⟩:∃ ds:List Value,ci ++ [bN bO n,bN bO (k:Nat),bN bO (dm:Nat),bS T b.length V]=ds:=⟨_,rfl⟩;have aa:ds.length=23:=by rw[<- L,cf,F];rfl
  have bg:=λ w'=>agd (w:=w') F n (k:Nat) (dm:Nat) T b.length V;rw[L] at bg;have bq:=λ w'=>age (w:=w') aa;have bc:∀ v∈ds,v.oneCell'=true:=by
   intro v hv;rw[<- L] at hv;rcases cz.1 hv with q | q
   .exact aE v q
   .simp only[cg,cp,List.not_mem_nil,or_false] at q;rcases q with rfl | rfl | rfl | rfl <;> rfl
  obtain⟨xs,aZ,a8⟩:=D.o.row;have OV:(W.alloc (.cells ds.toArray 110 (0,0))).drew.ownsRow B 110 23 (bS A l.length c) l.length xs:=aZ.alloc _;have HX:=qh a8;have yM:=qh (show W.ownsRow B 9 1 (bS T b.length V) b.length (dP b) from Y.o.str K.o.2.1);have fJ:=qh BW;have kF:=qh D.o.blk;have ac:B<=W.heap.size:=b4 E bs;have r5:W.drew.cell? ⟨gb,5,none⟩=some (bS A l.length c):=kF.o.drew.cell 5;have bm:(W.alloc (.cells ds.toArray 110 (0,0))).drew.cell? ⟨gb,5,none⟩=some (bS A l.length c):=(kF.o.alloc _).drew.cell 5;have ag:=yX (w:=W.drew) F (gZ fJ.o.drew);have bt:=qh (show ∀ w',DD W w'->lh w' B0 gb m1 m2 m3 B x A c f l l/\(∀ i (h:i<l.length),zF B0 w' B l[i] ((xs.drop (i*23)).take 23))/\zF B0 w' B ⟨d,n,(k:Nat),(dm:Nat),b⟩ ds from λ w' hq =>
   ⟨D.o.later hq,λ i hi=>yC.later (HX.o i hi) hq,r,b4 r (b4 ac hq.size),ci,T,V,L.symm,qV.o.2.2.2.keep (hq.mono (b4 r ac)),aQ yM.o hq,K.o.2.2,by show b.length<=20;omega⟩)
  obtain⟨O,a6⟩:=af (l ++ [⟨d,n,(k:Nat),(dm:Nat),b⟩]);have C:=qh a6;clear aZ a8 BW L a6;go_cut [12] from 19 (λ v wd=>v = bN bO (l.length:Nat)/\Hid (∃ A4 c4,lh wd B0 gb m1 m2 m3 B x A4 c4 f O l)/\Hid (fG B gb m1 W wd)/\Hid (ah wd wr.heap.size 59 ci.toArray))
  case first =>
   go_region_law (refine step_append_lies _ rfl _ _ 111 rfl B 110 j0 (.agg #[.int .i64 0,.string ⟨#[]⟩,.slice none 0 0,.slice none 0 0,.slice none 0 0,.bool false,.slice none 0 0,.string ⟨#[]⟩,.int .i64 0,.int .i64 0,.int .i64 0,.int .i64 0,.string ⟨#[]⟩,.slice none 0 0,.bool false,.slice none 0 0,.bool false,.slice none 0 0,.slice none 0 0,.int .i64 0,.int .i64 0,.int .i64 0,.slice none 0 0]) 23 352 underlying111 bw bk bo bj rfl (by decide) _ l.length xs rfl OV ⟨W.heap.size,0,none⟩ 1 1 ds rfl (by rw[aa]) (gZ (cs:=ds) (ah.new W _ _)) bc (by decide) (by unfold maxLen;omega) (by omega) (by simp;omega) _ rfl ?_;intro g4 bz w4 ao ab _ _;have aL:=(kF.o.alloc (.cells ds.toArray 110 (0,0))).drew.grown ab (λ e=>gu OV (kF.o.alloc _).drew (by decide) e.symm);have br:=(fJ.o.alloc (.cells ds.toArray 110 (0,0))).drew.grown ab (λ e=>gu OV (fJ.o.alloc _).drew (by decide) e.symm);have z5:=aL.cell 5;have bA:=aL.frozen 5)
   all_goals
    obtain⟨a1,a2,a3⟩:=bt.o _ (az W _).drew;obtain⟨U,F5⟩:=a1.push OV a2 a3 aa ao ab (by omega);rw[C.o] at U
    try go_wp2_with fail
    go_meet
    exact⟨rfl,qh ⟨_,_,U⟩,qh ((fG.of (az W _).drew ac).trans F5),qh (br.far (by show wr.heap.size≠gb;omega) _)⟩
  case rest =>
  obtain⟨rfl,H5,F5,B5⟩:=hcut;clear ag r5 bm OV bg bq bc;obtain⟨A4,c4,U⟩:=H5.o;obtain⟨kv,k1,k2,k3⟩:=U.by_;have g6:wc.cell? ⟨gb,6,none⟩=some (.map (some m1)):=U.blk.cell 6;have aw:=U.le;have H5:=qh U;have K2:=qh (b5 k2 k3);have H:=λ (w':World) (h:ah w' wr.heap.size 59 ci.toArray)=>b5 (show w'.cell? ⟨wr.heap.size,0,none⟩=some (.int .i64 d.k) by rw[h.cell 0];simpa using qV.o.1) (b5 (show w'.cell? ⟨wr.heap.size,1,none⟩=some (.string d.nm) by rw[h.cell 1];simpa using qV.o.2.1) (show w'.cell? ⟨wr.heap.size,4,none⟩=some (.slice A3 d.items.length c3) by rw[h.cell 4];simpa using qV.o.2.2.1));have bv:=qh H;obtain⟨r0,r1,r4⟩:=H _ B5.o;have hl:=(show aO wc.drew m1 kv from k1.same rfl).look underlying112 (X3 _) ak;rw[k2 d.nm] at hl;have K1:=qh k1;clear U k1 k2 H;by_cases hnum:fA l d.nm<0
  case' pos =>
   rw[if_pos hnum] at hl;simp only[Option.getD_none,Option.isSome_none] at hl;go_upto_region 6 with (fail);go_region;obtain⟨W6,a9,Wj,ap⟩:=(show aO wc.drew.drew m1 kv from K1.o.same rfl).put underlying112 (by unfold maxLen;omega) ak (.int .i64 (l.length:Nat));go_upto_region 8 with (fail);go_region;have p:DD wc wc.drew.drew:=(Below.refl _ _).drew.drew;obtain⟨P6,X⟩:=(H5.o.later p).named ap (N2:=O) ⟨_,Wj,C.o▸aai (d:=⟨d,n,(k:Nat),(dm:Nat),b⟩) K2.o.1 hnum,by rw[<- C.o];simp;exact K2.o.2⟩;have X:=qh (F5.o.trans ((fG.of p aw).trans X));have B6:=qh (B5.o.drew.drew.grown ap (λ e=>by injection e;omega));clear a9 Wj ap p
  case' neg =>
   rw[if_neg hnum] at hl;simp only[Option.getD_some,Option.isSome_some] at hl;go_upto_region 6 with (fail);go_region;obtain⟨W6,uN⟩:∃ W',W'=wc.drew:=⟨_,rfl⟩;have p:DD wc W6:=uN▸(Below.refl _ _).drew;obtain⟨P6,X⟩:=(H5.o.later p).named (World.grownBy.refl _ _) (N2:=O) ⟨_,K1.o.below p K1.o.lt,C.o▸aaj (d:=⟨d,n,(k:Nat),(dm:Nat),b⟩) K2.o.1 hnum,by rw[<- C.o];simp;have:=K2.o.2;omega⟩;have X:=qh (F5.o.trans (fG.of p aw));have B6:=qh (B5.o.below p B5.o.lt);rw[<- uN];clear uN p
  all_goals
   clear hl g6 r0 r1 r4 hnum;obtain⟨r0,r1,r4⟩:=bv.o _ B6.o;have bb:=P6.le;have H6:=qh P6;have y:=y;have i1:IntKind.i64.wrap ((dm:Int)+1)=(dm:Int)+1:=IntWalk.i64_in _ (by omega);have i2:(dm:Int)+1=((dm+1:Nat):Int):=by omega
   rw[C.o,i2] at y;have a7:=qh (X.o.str yM.o);clear P6 i2;by_cases h3:d.k=3
   case' neg =>
    have S:=qh (show R=iZ (items.drop (k+1)) (iZ d.items O (l.length:Nat) 0 (dm+1:Nat) b) n ((k+1:Nat):Int) dm b by rw[y.o,if_neg h3]);have KR:=qh (show Calls lM 111 #[bX (some ⟨gb,0,none⟩),bS A3 d.items.length c3,bN bO (l.length:Nat),bN bO ((dm:Int)+1),bS T b.length V] W6 λ e w'=>e = b0 (.tuple #[])/\adp B0 gb m1 m2 m3 B x f (iZ d.items O (l.length:Nat) 0 (dm+1:Nat) b) W6 w' from ae.o W6 O _ A3 T _ c3 V (l.length:Nat) (dm+1) b H6.o (bh.o _ (.inr X.o)) ar a7.o K.o.2.2 (by omega) (by omega));obtain⟨N8,z⟩:=af (iZ d.items O (l.length:Nat) 0 (dm+1:Nat) b);rw[z] at S KR;obtain⟨g3,Q⟩:=fH h3;have F9:=X;clear h3 z
   case' pos =>
    have S:=qh (show R=iZ (items.drop (k+1)) (iZ d.items O (l.length:Nat) 0 (dm+1:Nat) (b ++ [d.nm])) n ((k+1:Nat):Int) dm b by rw[y.o,if_pos h3]);obtain⟨N8,z⟩:=af (iZ d.items O (l.length:Nat) 0 (dm+1:Nat) (b ++ [d.nm]));rw[z] at S;obtain⟨g3,Q⟩:=iP h3;have bi:=qh z;clear h3 z;have t:=Below.refl W6.heap.size W6;have X9:∀ o,DD W6 (W6.alloc o).drew:=λ o=>(t.alloc (ce _) _).drew;have K1:=qh (show ∀ w',DD W6 w'->Calls lM 38 #[bS T b.length V] w' λ en am=>∃ v,en = b0 v/\am.ownsRow W6.heap.size 9 1 v b.length (dP b)/\DD W6 am/\DD w' am from λ w' hb =>
     (cloneS b T V _ w' ((Reads.fB a7.o).below hb) (by omega)).mono λ _ _ ⟨v,he,ho,hk⟩=>⟨v,he,own_base ho hb.size,hb.trans (hk.mono hb.size),hk⟩)
    have HS:=qh (show ∀ w',DD W6 w'->w'.cell? ⟨wr.heap.size,1,none⟩=some (bR d.nm)/\DD W6 w' from λ w' hb=>⟨Below.cell_of hb r1,hb⟩);have bx:=qh r4;clear r4;go_upto_region 11 with (fail);clear r0 r1;have r1:=(HS.o _ t).1;go_region_held3 (λ w'=>w'.cell? ⟨wr.heap.size,1,none⟩=some (bR d.nm)/\DD W6 w')
     (first | exact HS.o _ t | exact HS.o _ t.drew | exact HS.o _ m | exact HS.o _ G | exact HS.o _ (m.alloc (b4 t.size m.size) _) | exact HS.o _ (X9 _))
     (first
      | (go_at_call 38;(with_reducible refine (K1.o _ t.drew).mono ?_);rintro e1 w1 ⟨v,rfl,J,m,uJ⟩)
      | (go_at_call 38;(with_reducible refine (K1.o _ (X9 _)).mono ?_);rintro e1 w1 ⟨v,rfl,J,m,uJ⟩;have bp:=Below.cell_of (a:=⟨W6.heap.size,0,none⟩) (v:=bR d.nm) uJ (by simp[go_sem]))
      | (refine step_append_lies _ rfl _ _ 22 rfl W6.heap.size 9 i0 (.string ByteArray.empty) 1 16 underlying22 a5 be aR ax rfl (by decide) v b.length (dP b) rfl (J.alloc _) ⟨w1.heap.size,0,none⟩ 1 1 [.string d.nm] rfl rfl (by intro j u hj;cases j <;> simp_all[go_sem]) (by intro u hu;simp only[cp] at hu;subst hu;rfl) (by decide) (by unfold maxLen;omega) (by omega) (by have:=m.size;first | omega | (simp;omega)) _ rfl ?_;intro g an w2 a0 al _ _;have G:=(m.alloc (b4 t.size m.size) _).grown al (by have:=m.size;simp;omega) (λ g hg=>(J.lt g hg).1))
      | (refine step_append_lies _ rfl _ _ 22 rfl W6.heap.size 9 i0 (.string ByteArray.empty) 1 16 underlying22 a5 be aR ax rfl (by decide) v b.length (dP b) rfl J ⟨W6.heap.size,0,none⟩ 1 1 [.string d.nm] rfl rfl (by intro j u hj;cases j with | zero=>(have hu:u = .string d.nm:=by simpa using hj.symm);subst hu;exact bp | succ j=>simp at hj) (by intro u hu;simp only[cp] at hu;subst hu;rfl) (by decide) (by unfold maxLen;omega) (by omega) (by have:=m.size;first | omega | (simp;omega)) _ rfl ?_;intro g an w2 a0 al _ _;have G:=m.grown al m.size (λ g hg=>(J.lt g hg).1)))
    all_goals
     have M:(b ++ [d.nm]).length=b.length+1:=by simp
     have F9:=qh (X.o.trans (fG.of G bb));have KR:=qh (show Calls lM 111 #[bX (some ⟨gb,0,none⟩),bS A3 d.items.length c3,bN bO (l.length:Nat),bN bO ((dm:Int)+1),bS (some ⟨g,0,none⟩) (b.length+1) an] w2 λ e w'=>e = b0 (.tuple #[])/\adp B0 gb m1 m2 m3 B x f N8 w2 w' by
      have h:=ae.o w2 O _ A3 (some ⟨g,0,none⟩) _ c3 an (l.length:Nat) (dm+1) (b ++ [d.nm]) (H6.o.later G) (bh.o _ (.inr F9.o)) ar (by rw[Bi,M];exact own_base a0 bb) (λ s hs=>by
       rcases cz.1 hs with q | q
       .exact K.o.2.2 s q
       .rw[cp] at q;rw[q];exact ak) (by omega) (by omega)
      rw[M,bi.o] at h;exact h)
     have r4:=Below.cell_of G bx.o
   all_goals
    go_wp2_with (go_at_call 111;(with_reducible refine KR.o.mono ?_);rintro e8 w8 ⟨rfl,A8,c8,P8,F8⟩);go_roundw
    case rel=>exact⟨k+1,N8,A8,c8,by go_num,aV.o,S,qh P8,qh ((Y.o.trans F9.o).trans F8)⟩
    case measure =>
     have:=aV.o;simp[intOf];omega
end
section
open Go.RowKit
attribute [local go_sem ↓] Go.wp_at_zero Go.wp_at_succ
section
variable {B0 gb m1 m2 m3 B:Nat} {x:jS} {f:aI}
mutual
theorem agi:∀ a:ItemD,aam B0 gb m1 m2 m3 B x f a.items
 | .mk _ _ _ _ items _ _ _ _ _=>O0 (Kw items)
theorem Kw:∀ l:List ItemD,∀ b∈l,aam B0 gb m1 m2 m3 B x f b.items
 | [],_,h=>by cases h
 | a :: r,b,h=>by
  rcases cg.1 h with e | e
  .rw[e];exact agi a
  .exact Kw r b e
end
theorem aan (items:List ItemD):aam B0 gb m1 m2 m3 B x f items:=O0 (Kw items)
end
theorem lh.other {w w':World} {B0 gb m1 m2 m3 B m:Nat} {x:jS} {A:Option Addr} {c:Nat} {f:aI} {N N':List au} (h:lh w B0 gb m1 m2 m3 B x A c f N N') (a:w.grownBy w' (some m)) (H:m<B) (s:m≠gb) (v:m≠m1) (I:B0<=m):lh w' B0 gb m1 m2 m3 B x A c f N N':=by
 obtain⟨C,E,D,F,G⟩:=h.ne;obtain⟨cs,b,z⟩:=h.row;obtain⟨r,t,p⟩:=h.by_;refine⟨h.blk.grown a (λ e=>s (by injection e with e;exact e.symm)),⟨cs,b.kept a ?_,λ i l=>?_⟩,⟨r,t.kept a (λ e=>v (by injection e with e;exact e.symm)),p⟩,h.ne,b4 h.le a.size,h.len⟩
 .cases hq:(ck A N.length c).ownBlock with
  | none=>exact .inl rfl
  | some q=>exact .inr (λ e=>by injection e with e;have:=(b.lt q hq).1;omega)
 .obtain⟨y,d,o,A',c',e,u,g,n⟩:=z i l;refine⟨y,b4 d a.size,o,A',c',e,u.keep (um a d (λ k j=>by injection j with j;omega)),g.kept a ?_,n⟩;cases hq:(ck A' N[i].lo.length c').ownBlock with
  | none=>exact .inl rfl
  | some q=>exact .inr (λ e=>by injection e with e;have:=(g.lt q hq).1;omega)
theorem lh.nodes {w:World} {B0 gb m1 m2 m3 B:Nat} {x:jS} {A:Option Addr} {c:Nat} {f:aI} {N N':List au} (h:lh w B0 gb m1 m2 m3 B x A c f N N') (r:m3<B):sW w B0 m3 A N/\N.length<=c:=by
 obtain⟨cs,j,q⟩:=h.row;refine⟨⟨h.len,λ ad e=>?_,cs,Reads.fB j,λ i l=>?_⟩,vM j⟩
 .subst e;rcases j.2 with ⟨a,-⟩ | ⟨d,g,b,a,n,-⟩
  .injection a with a;cases a
  .injection a with a;injection a with a;subst a;show d≠m3;omega
 .obtain⟨t,s,o,A',c',e,p,k,m,u⟩:=q i l;refine⟨o,A',c',e,p,⟨Reads.fB k,vM k,by unfold maxLen;omega,m⟩,by omega,λ ad e=>?_⟩;subst e;rcases k.2 with ⟨a,-⟩ | ⟨d,g,b,a,n,-⟩
  .injection a with a;cases a
  .injection a with a;injection a with a;subst a;show d≠m3;omega
theorem Gp {L:List aS} {k:Nat} (h:k<L.length) (s:ByteArray):lX (L.take (k+1)) s=match lX (L.take k) s with | some l=>some l | none=>if L[k].nm=s then some L[k] else none:=by
 unfold lX;rw[List.take_succ_eq_append_getElem h,List.find?_append];cases (L.take k).find? (λ l=>decide (l.nm=s)) with
 | some l=>rfl
 | none=>by_cases e:L[k].nm=s <;> simp[e]
theorem aao {w:World} {B0:Nat} {b:List (ByteArray × Value)} {L:List aS} {k:Nat} (h:EN w B0 b (L.take k)) (g:k<L.length) (f:lX (L.take k) L[k].nm=none) {A:Option Addr} {c:Nat} (i:jI w B0 L[k] (JG L[k] A c)):EN w B0 ((L[k].nm,.agg (JG L[k] A c).toArray) :: b) (L.take (k+1)):=by
 intro s;rw[Gp g];have a:=h s;by_cases e:L[k].nm=s
 .subst e;rw[f,if_pos rfl];exact⟨A,c,by rw[di,if_pos rfl],i⟩
 .cases hq:lX (L.take k) s with
  | some l =>
   rw[hq] at a;obtain⟨A',c',d,j⟩:=a;exact⟨A',c',by rw[di,if_neg e];exact d,j⟩
  | none =>
   rw[hq] at a;rw[if_neg e];show di _ s=none;rw[di,if_neg e];exact a
theorem aap {w:World} {B0:Nat} {b:List (ByteArray × Value)} {L:List aS} {k:Nat} (h:EN w B0 b (L.take k)) (d:k<L.length) (c:¬ lX (L.take k) L[k].nm=none):EN w B0 b (L.take (k+1)):=by
 intro s;rw[Gp d];have a:=h s;cases hq:lX (L.take k) s with
 | some l=>rw[hq] at a;exact a
 | none =>
  rw[hq] at a;rw[if_neg (λ e=>c (by rw[e];exact hq))];exact a
def adq (f:aI) (x:jS) (B0:Nat) (e:Ending) (w':World):Prop:=∃ gb m1 m2 m3 A c,e = b0 (bX (some ⟨gb,0,none⟩))/\aT w' B0 gb m1 m2 m3 {x with AN:=A,cn:=c} f (ai f) []/\zD w' m3 [] 0
theorem open_any {w:World} {f:aI} {x:jS} (hf:jq w w.heap.size f x) :
  Calls lM 70 #[.agg (BK f x)] w λ e w'=>adq f x w.heap.size e w'/\DD w w':=by
 obtain⟨a,Z,Q,r⟩:=box w 26 (BK f x);have q0:=r.cell 0;have q1:=r.cell 1;have q2:=r.cell 2;have q3:=r.cell 3;have q4:=r.cell 4;have aq:=@run_makeMap lM;have p:=qh hf;go_enter func70,ntmps70;go_upto_region 1 with (fail);rw[<- Z];clear Z;go_upto_region 2 with (fail);clear aq;obtain⟨W5,D⟩:∃ W',W'=(((a.alloc (.map #[] 0)).alloc (.map #[] 0)).alloc (.map #[] 0)).alloc (.cells #[bR f.nm,bN bO f.jo,bS x.AL f.ag.length x.cl,bS x.AS f.lists.length x.cs,bS x.AI f.items.length x.ci,bS none 0 0,.map (some a.heap.size),.map (some (a.heap.size+1)),.map (some (a.heap.size+1+1))] 115 (0,0)):=⟨_,rfl⟩;have I:DD a W5:=D▸((((Below.refl _ a).alloc (ce _) _).alloc (by simp) _).alloc (by simp;omega) _).alloc (by simp;omega) _;have am:W5.heap.size=a.heap.size+4:=by rw[D];simp
 have M1:aO W5 a.heap.size []:=D▸(((aO.made a).alloc _).alloc _).alloc _;have M2:aO W5 (a.heap.size+1) []:=by
  have h:=((aO.made (a.alloc (.map #[] 0))).alloc (.map #[] 0)).alloc (.cells #[bR f.nm,bN bO f.jo,bS x.AL f.ag.length x.cl,bS x.AS f.lists.length x.cs,bS x.AI f.items.length x.ci,bS none 0 0,.map (some a.heap.size),.map (some (a.heap.size+1)),.map (some (a.heap.size+1+1))] 115 (0,0));rw[D];simpa using h
 have M3:aO W5 (a.heap.size+1+1) []:=by
  have h:=(aO.made ((a.alloc (.map #[] 0)).alloc (.map #[] 0))).alloc (.cells #[bR f.nm,bN bO f.jo,bS x.AL f.ag.length x.cl,bS x.AS f.lists.length x.cs,bS x.AI f.items.length x.ci,bS none 0 0,.map (some a.heap.size),.map (some (a.heap.size+1)),.map (some (a.heap.size+1+1))] 115 (0,0));rw[D];simpa using h
 have M:ah W5 (a.heap.size+1+1+1) 115 #[bR f.nm,bN bO f.jo,bS x.AL f.ag.length x.cl,bS x.AS f.lists.length x.cs,bS x.AI f.items.length x.ci,bS none 0 0,.map (some a.heap.size),.map (some (a.heap.size+1)),.map (some (a.heap.size+1+1))]:=by
  have h:=ah.new (((a.alloc (.map #[] 0)).alloc (.map #[] 0)).alloc (.map #[] 0)) 115 #[bR f.nm,bN bO f.jo,bS x.AL f.ag.length x.cl,bS x.AS f.lists.length x.cs,bS x.AI f.items.length x.ci,bS none 0 0,.map (some a.heap.size),.map (some (a.heap.size+1)),.map (some (a.heap.size+1+1))];rw[D];simpa using h
 have V:=r.below I r.lt;have ag:=r.lt;have B:=Q.size;rw[<- D];clear D q0 q1 q2 q3 q4;obtain⟨gb,H⟩:=af (a.heap.size+1+1+1);rw[H] at M ⊢;obtain⟨m3,E⟩:=af (a.heap.size+1+1);rw[E] at M M3 ⊢;obtain⟨m2,J⟩:=af (a.heap.size+1);rw[J] at M M2 ⊢;obtain⟨m1,K⟩:=af (a.heap.size);have uk:=Q.trans (I.mono B);rw[K] at M M1 am ag B ⊢;have HM:=qh (b5 H (b5 E (b5 J K)));have n1:m1<m2:=by omega
 have n2:m2<m3:=by omega
 have n3:m3<gb:=by omega
 have n4:gb<W5.heap.size:=by omega
 have O:lh W5 w.heap.size gb m1 m2 m3 W5.heap.size x none 0 f [] []:=⟨M,Dq.nil,⟨[],M1,λ s=>rfl,ce _⟩,⟨by omega,by omega,n4,by omega,by omega⟩,ce _,cc _⟩;have KA:=qh (show Calls lM 111 #[bX (some ⟨gb,0,none⟩),bS x.AI f.items.length x.ci,bN bO (-1),bN bO 1,bS none 0 0] W5 λ e w'=>e = b0 (.tuple #[])/\adp w.heap.size gb m1 m2 m3 W5.heap.size x f (ai f) W5 w' from
  aan f.items W5 [] none x.AI none 0 x.ci 0 (-1) 1 [] O (p.o.it.keep (λ _ _ h=>h.keep uk) uk) p.o.ii (World.ownsRow_nil _ _ _ _) (λ s h=>by cases h) (by omega) (cc _))
 have q4:=V.cell 4;clear O M M1 H E J K I r hf;go_upto_region 3 with (go_at_call 111;(with_reducible refine KA.o.mono ?_);rintro e1 w6 ⟨rfl,A6,c6,P6,F6⟩);have V:ah w6 w.heap.size 26 (BK f x):=(F6.old _ (by omega) (by omega) (by omega)).trans V;have M2:=qh (M2.same (F6.old m2 (by omega) (by omega) (by omega)));have M3:=qh (M3.same (F6.old m3 (by omega) (by omega) (by omega)));have X:=uk.trans (F6.below (B0:=w.heap.size) (by omega) (by omega) (by omega));have P6:=qh P6;obtain⟨AS,Xh⟩:=af (x.AS);obtain⟨cS,F⟩:=af (x.cs);have q3:w6.cell? ⟨w.heap.size,3,none⟩=some (bS AS f.lists.length cS):=by rw[V.cell 3,<- Xh,<- F];rfl
 obtain⟨L,U⟩:=af (f.lists);rw[U] at q3;have HL:=qh (show aF jI 2 w w.heap.size AS L/\L.length<=cS/\f.lists=L from ⟨Xh▸U▸p.o.ls,F▸U▸p.o.li,U⟩);have an:=HL.o.1.1;unfold maxLen at an;clear KA V F6 q4 Xh F U;go_wp2;clear q3;go_loopw [21] (λ i wr=>∃ (k:Nat) (o:List (ByteArray × Value)),i = bN bO k/\k<=L.length/\Hid (aO wr m2 o/\EN wr w.heap.size o (L.take k)/\o.length<=k)/\Hid (w6.grownBy wr (some m2))) (λ i _=>L.length+1 - (intOf i).toNat)
 case atStart=>exact⟨0,[],rfl,cc _,qh ⟨M2.o,λ s=>rfl,ce _⟩,qh (World.grownBy.refl _ _)⟩
 case round =>
  obtain⟨k,o,rfl,hk,u,N⟩:=hrel;have P:=P6.o.other N.o (by omega) (by omega) (by omega) (by omega);have g7:wr.cell? ⟨gb,7,none⟩=some (.map (some m2)):=P.blk.cell 7;have C:=X.grown N.o X.size (λ g e=>by injection e;omega);by_cases hlt:k<L.length
  case neg =>
   obtain rfl:k=L.length:=by omega
   have HP:=qh P;have G:=qh C;clear P C;go_wp2;go_ret;obtain⟨l1,l2,-⟩:=u.o;rw[List.take_length] at l2;obtain⟨N1,N2⟩:=HP.o.nodes (show m3<_ by omega);obtain⟨lC,b1,b2,-⟩:=HP.o.by_;have ae:=M3.o.kept N.o (λ e=>by injection e;omega);exact⟨⟨gb,m1,m2,m3,A6,c6,rfl,⟨HP.o.blk,⟨p.o.nm,p.o.la.keep G.o,p.o.ls.keep (λ _ _ h=>h.keep G.o) G.o,p.o.li,p.o.it.keep (λ _ _ h=>h.keep G.o) G.o,p.o.ii⟩,N1,N2,⟨lC,b1,b2⟩,⟨o,l1,HL.o.2.2.symm▸l2⟩,⟨[],ae,λ s=>rfl⟩,⟨by omega,by omega,by omega,by omega,by omega,by omega,by omega⟩,G.o.size⟩,⟨[],ae,λ s=>rfl,ce _⟩⟩,G.o⟩
  obtain⟨ad,ci,rfl,al,ao,j⟩:=aF.at_ (aF.keep (λ _ _ h=>h.keep C) HL.o.1 C) hlt;obtain⟨A,c,rfl,R,S,z⟩:=ao;have Y:=qh (show jI wr w.heap.size L[k] (JG L[k] A c) from ⟨A,c,rfl,R,S,z⟩);have ac:=qh (λ (w':World) (h:EN w' w.heap.size o (L.take k)) (q:lX (L.take k) L[k].nm=none) (hl:jI w' w.heap.size L[k] (JG L[k] A c))=>aao h hlt q hl);have aa:=qh (λ (w':World) (h:EN w' w.heap.size o (L.take k)) (q:¬ lX (L.take k) L[k].nm=none)=>aap h hlt q);obtain⟨d,hd⟩:=af (L[k]);have aV:=qh hlt;rw[hd] at j z Y ac aa;have p0:wr.cell? (ad.add (k*2))=some (.string d.nm):=j 0 _ rfl;have p1:wr.cell? ⟨(ad.add (k*2)).block,(ad.add (k*2)).off+1,none⟩=some (.slice A d.os.length c):=j 1 _ rfl;obtain⟨W,hW,oM,BW⟩:=box wr 92 #[.string d.nm,.slice A d.os.length c];have ax:=C.trans (oM.mono C.size);have r0:=BW.cell 0;have r1:=BW.cell 1;have g7:=Below.cell_of oM g7;have ab:=oM.size;have t:=C.size;have ar:wr.heap.size<W.heap.size:=BW.lt;have ay:gb<W.heap.size:=cr (cr n4 (b4 P6.o.le N.o.size)) ab;clear j hd al R S P;go_upto_region 6 with (fail);rw[<- hW];clear p0 p1 hW;have xK:=qh (u.o.1.below oM u.o.1.lt);have b:=u.o.2.1 d.nm;have aw:=u.o.2.2;have m:=λ (w':World) (h:aO w' m2 o)=>h.look underlying113 (Yg w') z;have T:∀ cs,DD wr (W.alloc (.cells cs 92 (0,0))).drew:=λ cs=>oM.trans ((az W _).drew.mono ab);have n:=qh T;have ap:=qh (show o.length<maxLen by have:=aV.o;unfold maxLen;omega);clear T;by_cases q:lX (L.take k) d.nm=none
  case neg =>
   obtain⟨l9,A9,c9,b⟩:∃ l A c,di o d.nm=some (.agg (JG l A c).toArray):=by
    cases hq:lX (L.take k) d.nm with
    | none=>exact absurd hq q
    | some l=>rw[hq] at b;obtain⟨A9,c9,e,-⟩:=b;exact⟨l,A9,c9,e⟩
   simp only[b,Option.getD_some,Option.isSome_some] at m;have y:=m W.drew (xK.o.same rfl);have v:=m (W.alloc (.cells #[bR ⟨#[]⟩,bS none 0 0] 92 (0,0))).drew ((xK.o.alloc _).same rfl);simp only[JG] at y v;have HN:=qh q;clear m b q;go_region
   all_goals
    clear y v;go_wp2;go_roundw
    case rel=>exact⟨k+1,o,by go_num,aV.o,qh ⟨u.o.1.below (n.o _) u.o.1.lt,aa.o _ (u.o.2.1.keep ((n.o _).mono t)) HN.o,by omega⟩,qh (lg N.o (grown_of (n.o _) _))⟩
    case measure =>
     have:=aV.o;simp[intOf];omega
  rw[q] at b;have b:di o d.nm=none:=b;simp only[b,Option.getD_none,Option.isSome_none] at m;have y:=m W.drew (xK.o.same rfl);have v:=m (W.alloc (.cells #[bR ⟨#[]⟩,bS none 0 0] 92 (0,0))).drew ((xK.o.alloc _).same rfl);have HN:=qh q;clear m b q;go_region
  all_goals
   clear y v;obtain⟨W9,av,ak,Wq⟩:=(show aO (W.alloc (.cells #[.string ⟨#[]⟩,.slice none 0 0] 92 (0,0))).drew.drew m2 o from (xK.o.alloc _).same rfl).put underlying113 ap.o z (.agg #[.string d.nm,.slice A d.os.length c]);go_upto_region 8 with (fail);go_region;have D7:DD w W9:=(C.trans (((n.o _).drew).mono t)).grown Wq (by simp;omega) (λ g e=>by injection e;omega);go_wp2;go_roundw
   case rel=>exact⟨k+1,_,by go_num,aV.o,qh ⟨ak,ac.o _ (u.o.2.1.keep (((n.o _).drew.mono t).grown Wq (by simp;omega) (λ g e=>by injection e;omega))) HN.o (Y.o.keep (((n.o _).drew.mono t).grown Wq (by simp;omega) (λ g e=>by injection e;omega))),by simp;omega⟩,qh (lg N.o (lg (grown_of (n.o _).drew _) Wq))⟩
   case measure =>
    have:=aV.o;simp[intOf];omega
end
section
def aar (acc:List au) (lo:List ByteArray):Prop:=lo = []\/∃ p:Nat,∃ h:p<acc.length,acc[p].it.k=3/\lo=acc[p].lo ++ [acc[p].it.nm]
def agl (N:List au):Prop:=∀ i (h:i<N.length),aar (N.take i) N[i].lo
theorem aar.more {a:List au} {lo:List ByteArray} (h:aar a lo) (t:List au):aar (a ++ t) lo:=by
 rcases h with h | ⟨p,b,d,c⟩
 .exact .inl h
 .exact .inr ⟨p,by rw[cf];omega,by rw[ct b];exact d,by rw[ct b];exact c⟩
theorem agl.snoc {N:List au} (h:agl N) {d:au} (b:aar N d.lo):agl (N ++ [d]):=by
 intro i a;rw[cf] at a;by_cases hl:i<N.length
 .rw[ct hl,List.take_append_of_le_length (by omega)];exact h i hl
 .have:i=N.length:=by simp at a;omega
  subst this;simpa using b
theorem zG {N:List au} {L:List aS}:∀ (f n:Nat),N.length<n+f->uX N L f n=0->∀ i,n<=i->i<N.length->mF N L i=0
 | 0,n,h,_,i,h1,h2=>by omega
 | f+1,n,h,h0,i,h1,h2=>by
  rw[uX,if_pos (by omega)] at h0;by_cases hs:mF N L n=0
  .rw[if_neg (λ h=>h hs)] at h0;by_cases e:i=n
   .rw[e];exact hs
   .exact zG f (n+1) (by omega) h0 i (by omega) h2
  .rw[if_pos hs] at h0;exact absurd h0 hs
structure adr (N:List au):Prop where
 nm:∀ d∈N,aP d.it.nm.data.toList=true
 one:∀ i j (h:i<N.length) (h':j<i),N[j].it.nm≠N[i].it.nm
 ak:∀ d∈N,d.it.k=4->2<=d.it.ans.k/\d.it.ans.k<=6
 cm:∀ d∈N,d.it.k=5->d.it.cmp.length=1
 cm':∀ d∈N,¬ d.it.k=5->d.it.cmp = []
 len:N.length<=300
theorem O1 {N:List au} {L:List aS} (h:fZ N L=0):adr N:=by
 unfold fZ at h;by_cases hz:xJ N=0
 case neg=>rw[if_pos hz] at h;exact absurd h hz
 rw[if_neg (λ h=>h hz)] at h;have l:=zG (N:=N) (L:=L) (N.length+1) 0 (by omega) h;have key:∀ i (a:i<N.length),aP N[i].it.nm.data.toList=true/\(∀ j (f:j<i),N[j].it.nm≠N[i].it.nm)/\(N[i].it.k=4->2<=N[i].it.ans.k/\N[i].it.ans.k<=6)/\nZ N[i].it=false:=by
  intro i a;have:=l i (cc _) a;unfold mF at this;rw[iD a] at this;dsimp only at this;split at this
  .exact absurd this (by decide)
  split at this
  .exact absurd this (by decide)
  split at this
  .exact absurd this (by decide)
  split at this
  .exact absurd this (by decide)
  split at this
  .exact absurd this (by decide)
  rename_i q m g o n;refine⟨by cases hq:aP N[i].it.nm.data.toList <;> simp_all,λ j p e=>g (List.any_eq_true.2 ⟨N[j],?_,by simpa using e⟩),λ k=>?_,by cases hq:nZ N[i].it <;> simp_all⟩
  .rw[List.mem_take_iff_getElem];exact⟨j,by omega,rfl⟩
  .rw[if_pos k] at this;unfold JF at this;split at this
   .exact absurd this (by decide)
   .rename_i b1;unfold aW at b1;simp at b1;omega
 refine⟨λ d b=>?_,λ i j h f=>(key i h).2.1 j f,λ d b=>?_,λ d b c=>?_,λ d b c=>?_,?_⟩
 .obtain⟨i,a,rfl⟩:=cq.1 b;exact (key i a).1
 .obtain⟨i,a,rfl⟩:=cq.1 b;exact (key i a).2.2.1
 .obtain⟨i,a,rfl⟩:=cq.1 b;have:=(key i a).2.2.2;unfold nZ at this;simp[c] at this;omega
 .obtain⟨i,a,rfl⟩:=cq.1 b;have:=(key i a).2.2.2;unfold nZ at this;simp[c] at this;exact List.length_eq_zero_iff.1 (by simp[this])
 .unfold xJ at hz;split at hz
  .exact absurd hz (by decide)
  .omega
theorem aat {f:aI} (h:aX f=0):fZ (ai f) f.lists=0/\uF (ai f) f.lists f.ag.length ((ai f).length+1) 0 []=(0,(nH f).2):=by
 unfold aX at h;have e:nH f=(0,(nH f).2):=by rw[<- h]
 generalize b:(nH f).2=K at e ⊢;unfold nH at e;split at e
 .rename_i a;exact absurd (congrArg Prod.fst e) a
 split at e
 .rename_i a;exact absurd (congrArg Prod.fst e) a
 split at e
 .rename_i a;exact absurd (congrArg Prod.fst e) a
 .rename_i a;exact⟨cj.1 a,e⟩
theorem ads {N:List au} (c:adr N) {i:Nat} (a:i<N.length):fA N N[i].it.nm=i:=by
 unfold fA;have:N.findIdx? (λ d=>decide (d.it.nm=N[i].it.nm))=some i:=by
  rw[cA];exact⟨a,by simp,λ j b=>by simpa using c.one i j a b⟩
 rw[this]
open Go.RowKit
attribute [local go_sem ↓] Go.wp_at_zero Go.wp_at_succ
def nV (N:List au):Prop:=∀ d∈N,(∀ e∈d.it.iff,e.parts<=1000000)/\(∀ e∈d.it.cnt,e.parts<=1000000)/\(∀ e∈d.it.cmp,e.parts<=1000000)/\(∀ e∈d.it.ans.only,e.parts<=1000000)/\∀ r∈d.it.ans.ch,r.must.parts<=1000000
def zH (f:aI) (x:jS) (e:Ending) (w':World):Prop:=(aX f≠0/\e = b0 (.tuple #[bX none,bN bO (aX f)])) \/
 (aX f=0/\∃ B0 gb m1 m2 m3 A c,e = b0 (.tuple #[bX (some ⟨gb,0,none⟩),bN bO 0])/\aT w' B0 gb m1 m2 m3 {x with AN:=A,cn:=c} f (ai f) (nH f).2)
theorem jq.up {w:World} {B B':Nat} {f:aI} {x:jS} (h:jq w B f x) (a:B<=B'):jq w B' f x:=
 ⟨h.nm,h.la.up a,h.ls.UK (λ _ _ h=>h.up a) a,h.li,h.it.UK (λ _ _ h=>h.up a) a,h.ii⟩
theorem RF {N:List au} {L:List aS} {a k:Nat} {K:aY} (h:k<N.length):uF N L a (N.length+1 - k) k K=if (qw N L K a k).1≠0 then qw N L K a k else uF N L a (N.length+1 - (k+1)) (k+1) (qw N L K a k).2:=by
 obtain⟨m,b⟩:∃ m,N.length+1 - k=m+1:=⟨N.length - k,by omega⟩;rw[b,show N.length+1 - (k+1)=m by omega,uF,if_pos h]
theorem Wv {N:List au} {L:List aS} {a:Nat} {K:aY}:uF N L a (N.length+1 - N.length) N.length K=(0,K):=by
 rw[show N.length+1 - N.length=0+1 by omega,uF,if_neg (by omega)]
theorem an4 {f:aI} (h:nG f≠0):aX f=nG f:=by unfold aX nH;rw[if_pos h]
theorem an5 {f:aI} (a:nG f=0) (h:jH f≠0):aX f=jH f:=by unfold aX nH;rw[if_neg (λ q=>q a),if_pos h]
theorem an6 {f:aI} (a:nG f=0) (b:jH f=0) (h:fZ (ai f) f.lists≠0):aX f=fZ (ai f) f.lists:=by unfold aX nH;rw[if_neg (λ q=>q a),if_neg (λ q=>q b),if_pos h]
theorem an7 {f:aI} (b:nG f=0) (c:jH f=0) (a:fZ (ai f) f.lists=0):nH f=uF (ai f) f.lists f.ag.length ((ai f).length+1 - 0) 0 []:=by unfold nH;rw[if_neg (λ q=>q b),if_neg (λ q=>q c),if_neg (λ q=>q a)];rfl
theorem Gq {w:World} {f:aI} {x:jS} (hf:jq w w.heap.size f x) (U:nV (ai f)) (y:Tab w) (Z:Mx w) :
  Calls lM 34 #[.agg (BK f x)] w λ e w'=>zH f x e w'/\DD w w':=by
 obtain⟨W1,S,o,L⟩:=box w 26 (BK f x);have q0:=L.cell 0;have q1:=L.cell 1;have q2:=L.cell 2;have q3:=L.cell 3;have q4:=L.cell 4;have HF:=qh (b5 hf (b5 U (λ w' (q:DD w w')=>b5 (aB y q) (Z.below q))));have KO:=qh (open_any (w:=W1) (f:=f) (x:=x) ((hf.keep (o)).up o.size));clear hf U y Z;go_enter func34,ntmps34;go_upto_region 1 with (fail);rw[<- S];clear S;go_upto_region 3 with (go_at_call 70;(with_reducible refine KO.o.mono ?_);rintro e1 d ⟨⟨gb,m1,m2,m3,A,c,rfl,T,G⟩,pX⟩);obtain⟨u,aa⟩:=af (d.heap.size);obtain⟨W3,p⟩:∃ W',W'=(d.alloc (.cells #[bX (some ⟨gb,0,none⟩)] 156 (0,0))).alloc (.cells #[.func (.func 71) #[bX (some ⟨d.heap.size,0,none⟩)] #[],.func (.func 72) #[bX (some ⟨d.heap.size,0,none⟩)] #[],.func (.func 73) #[bX (some ⟨d.heap.size,0,none⟩)] #[]] 122 (0,0)):=⟨_,rfl⟩;have t:DD d W3:=p▸((Below.refl _ d).alloc (ce _) _).alloc (by simp) _;have M:ah W3 d.heap.size 156 #[bX (some ⟨gb,0,none⟩)]:=p▸(ah.new d _ _).alloc _;have BR:ah W3 (d.heap.size+1) 122 #[.func (.func 71) #[bX (some ⟨d.heap.size,0,none⟩)] #[],.func (.func 72) #[bX (some ⟨d.heap.size,0,none⟩)] #[],.func (.func 73) #[bX (some ⟨d.heap.size,0,none⟩)] #[]]:=by
  have h:=ah.new (d.alloc (.cells #[bX (some ⟨gb,0,none⟩)] 156 (0,0))) 122 #[.func (.func 71) #[bX (some ⟨d.heap.size,0,none⟩)] #[],.func (.func 72) #[bX (some ⟨d.heap.size,0,none⟩)] #[],.func (.func 73) #[bX (some ⟨d.heap.size,0,none⟩)] #[]];rw[p];simpa using h
 rw[<- p];have aZ:=o.trans (pX.mono o.size);have B:=aZ.trans (t.mono aZ.size);have D:=G.choose_spec.1.lt;rw[aa] at M BR D ⊢;have kF:=qh (show ∀ w',DD W3 w'->aT w' W1.heap.size gb m1 m2 m3 {x with AN:=A,cn:=c} f (ai f) []/\w'.cell? ⟨u,0,none⟩=some (bX (some ⟨gb,0,none⟩))/\u<w'.heap.size/\Tab w'/\Mx w'/\zD w' m3 [] 0/\(w'.cell? ⟨u+1,0,none⟩=some (.func (.func 71) #[bX (some ⟨u,0,none⟩)] #[])/\w'.cell? ⟨u+1,1,none⟩=some (.func (.func 72) #[bX (some ⟨u,0,none⟩)] #[])/\w'.cell? ⟨u+1,2,none⟩=some (.func (.func 73) #[bX (some ⟨u,0,none⟩)] #[]))/\DD w w' from λ w' Y=>by
  have h3:=t.trans (Y.mono t.size);have hw:=B.trans (Y.mono B.size);have B2:=BR.below Y BR.lt;exact⟨T.keep h3,(M.below Y M.lt).cell 0,(M.below Y M.lt).lt,(HF.o.2.2 w' hw).1,(HF.o.2.2 w' hw).2,G.keep h3,⟨B2.cell 0,B2.cell 1,B2.cell 2⟩,hw⟩)
 have O:=qh (b5 D (b5 o.size (X4 f)));clear p aa t M BR q0 q1 q2 q3 q4 T G pX KO L D;go_loopw [22] (λ i wr=>∃ k:Nat,i = bN bO k/\k<=3/\Hid ((0<k->nG f=0)/\(1<k->jH f=0)/\(2<k->fZ (ai f) f.lists=0))/\DD W3 wr) (λ i _=>4 - (intOf i).toNat)
 case atStart=>exact⟨0,rfl,by omega,qh ⟨λ h=>absurd h (by decide),λ h=>absurd h (by decide),λ h=>absurd h (by decide)⟩,Below.refl _ _⟩
 case round =>
  obtain⟨k,rfl,hk,F,q⟩:=hrel;obtain⟨b1,b2,b3,b6,b7,b9,⟨t0,t1,t2⟩,b8⟩:=kF.o wr q;obtain rfl | rfl | rfl | rfl:k=0\/k=1\/k=2\/k=3:=by omega
  .obtain⟨r,b⟩:=af (nG f);have z:=qh (b▸Yh b1 b2 b3);by_cases h0:r=0
   case neg =>
    have n:=qh (show aX f=r from (an4 (b▸h0)).trans b);obtain⟨I,l⟩:=fH h0;have E:=qh h0;clear b h0;go_wp2_with (go_at_call 71;(with_reducible refine z.o.mono ?_);rintro W P ⟨rfl,a⟩);go_ret2;exact⟨.inl ⟨by rw[n.o];exact E.o,by rw[n.o];rfl⟩,b8.trans (a.mono b8.size)⟩
   have m:=qh (show nG f=0 from b.trans h0);obtain⟨I,l⟩:=iP h0;clear b h0;go_wp2_with (go_at_call 71;(with_reducible refine z.o.mono ?_);rintro W P ⟨rfl,a⟩);go_roundw
   case rel=>exact⟨1,by first | rfl | go_num,by omega,⟨λ _=>m.o,λ h=>absurd h (by decide),λ h=>absurd h (by decide)⟩ |> cu,q.trans (a.mono q.size)⟩
   case measure=>simp[intOf]
  .obtain⟨r,b⟩:=af (jH f);have z:=qh (b▸Ry b1 b2 b3 O.o.2.2 b6 b7);by_cases h0:r=0
   case neg =>
    have n:=qh (show aX f=r from (an5 (F.o.1 (by decide)) (b▸h0)).trans b);obtain⟨I,l⟩:=fH h0;have E:=qh h0;clear b h0;go_wp2_with (go_at_call 72;(with_reducible refine z.o.mono ?_);rintro W P ⟨rfl,a⟩);go_ret2;exact⟨.inl ⟨by rw[n.o];exact E.o,by rw[n.o];rfl⟩,b8.trans (a.mono b8.size)⟩
   have m:=qh (show nG f=0/\jH f=0 from ⟨F.o.1 (by decide),b.trans h0⟩);obtain⟨I,l⟩:=iP h0;clear b h0;go_wp2_with (go_at_call 72;(with_reducible refine z.o.mono ?_);rintro W P ⟨rfl,a⟩);go_roundw
   case rel=>exact⟨2,by first | rfl | go_num,by omega,⟨λ _=>m.o.1,λ _=>m.o.2,λ h=>absurd h (by decide)⟩ |> cu,q.trans (a.mono q.size)⟩
   case measure=>simp[intOf]
  .obtain⟨r,b⟩:=af (fZ (ai f) f.lists);have z:=qh (b▸Qx b1 b2 b3 O.o.2.2);by_cases h0:r=0
   case neg =>
    have n:=qh (show aX f=r from (an6 (F.o.1 (by decide)) (F.o.2.1 (by decide)) (b▸h0)).trans b);obtain⟨I,l⟩:=fH h0;have E:=qh h0;clear b h0;go_wp2_with (go_at_call 73;(with_reducible refine z.o.mono ?_);rintro W P ⟨rfl,a⟩);go_ret2;exact⟨.inl ⟨by rw[n.o];exact E.o,by rw[n.o];rfl⟩,b8.trans (a.mono b8.size)⟩
   have m:=qh (show nG f=0/\jH f=0/\fZ (ai f) f.lists=0 from ⟨F.o.1 (by decide),F.o.2.1 (by decide),b.trans h0⟩);obtain⟨I,l⟩:=iP h0;clear b h0;go_wp2_with (go_at_call 73;(with_reducible refine z.o.mono ?_);rintro W P ⟨rfl,a⟩);go_roundw
   case rel=>exact⟨3,by first | rfl | go_num,by omega,⟨λ _=>m.o.1,λ _=>m.o.2.1,λ _=>m.o.2.2⟩ |> cu,q.trans (a.mono q.size)⟩
   case measure=>simp[intOf]
  obtain⟨z1,z2,z3⟩:=F.o;have HS:=qh (O1 (z3 (by decide)));have HD:=qh (an7 (z1 (by decide)) (z2 (by decide)) (z3 (by decide)));have c5:wr.cell? ⟨gb,5,none⟩=some (bS A (ai f).length c):=b1.blk.cell 5;have s:=qh (b5 b1 (b5 b9 b8));have ad:=b1.ne.2.2.1;have ae:=b9.choose_spec.1.lt;have tq:=b1.nodes.1;clear z1 z2 z3 b1 b9 b6 b7 t0 t1 t2;obtain⟨N,hN⟩:=af (ai f);rw[hN] at c5 tq;have m:=qh hN;clear hN;rw[show ((3:Nat):Int)=3 from rfl];go_wp2;clear c5;go_loopw [40] (λ i w5=>∃ (k:Nat) (K:aY),i = bN bO k/\k<=N.length/\Hid (nH f=uF N f.lists f.ag.length (N.length+1 - k) k K)/\Hid (aT w5 W1.heap.size gb m1 m2 m3 {x with AN:=A,cn:=c} f N K/\zD w5 m3 K k)/\Hid (wr.grownBy w5 (some m3))) (λ i _=>N.length+1 - (intOf i).toNat)
  case atStart=>exact⟨0,[],rfl,cc _,m.o▸HD,m.o▸qh ⟨s.o.1,s.o.2.1⟩,qh (World.grownBy.refl _ _)⟩
  case round =>
   obtain⟨j,K,rfl,hj,HP,HK,HG⟩:=hrel;have ac:some u≠some m3:=λ e=>by injection e with e;have:=O.o.1;omega
   have V:=HG.o.cell b2 ac;have Q:=HG.o.size;have v:=s.o.2.2.grown HG.o s.o.2.2.size (λ g e=>by injection e with e;have:=O.o.2.1;omega);by_cases hlt:j<N.length
   case neg =>
    obtain rfl:j=N.length:=by omega
    have n:=qh (HP.o.trans Wv);have HR:=qh HK.o.1;clear b2;go_wp2;go_ret2;exact⟨.inr ⟨by unfold aX;rw[n.o],W1.heap.size,gb,m1,m2,m3,A,c,rfl,by rw[m.o,n.o];exact HR.o⟩,v⟩
   obtain⟨s1,s2,s3,s4,s5⟩:=HF.o.2.1 N[j] (by rw[m.o];exact co hlt);have H:=HF.o.2.2 _ v;have X:gW N:=m.o▸O.o.2.2;have R:adr N:=m.o▸HS.o;have KM:=qh (OZ HK.o.1 V (cr b3 Q) X hlt (by omega) HK.o.2 s1 s2 s3 s4 s5 (R.cm _ (co hlt)) H.1 H.2);have C:=qh (HP.o.trans (RF hlt));obtain⟨r,b⟩:=af (qw N f.lists K f.ag.length j);rw[b] at KM C;have aV:=qh hlt;clear s1 s2 s3 s4 s5 H X R b V b2;by_cases h0:r.1=0
   case neg =>
    have n:=qh (show aX f=r.1 by unfold aX;rw[C.o,if_pos h0]);have E:=qh h0;obtain⟨I,l⟩:=fH h0;clear h0;go_wp2_with (go_at_call 74;(with_reducible refine KM.o.mono ?_);rintro e6 w6 ⟨rfl,h6,-,J⟩);go_ret2;exact⟨.inl ⟨by rw[n.o];exact E.o,by rw[n.o];rfl⟩,v.grown J v.size (λ g e=>by injection e with e;have:=O.o.2.1;omega)⟩
   have CZ:=qh (C.o.trans (if_neg (λ h=>h h0)));obtain⟨I,l⟩:=iP h0;clear h0;go_wp2_with (go_at_call 74;(with_reducible refine KM.o.mono ?_);rintro e6 w6 ⟨rfl,h6,ab,J⟩);go_roundw
   case rel=>exact⟨j+1,r.2,by go_num,aV.o,CZ,qh ⟨h6,ab⟩,qh (lg HG.o J)⟩
   case measure =>
    have:=aV.o;simp[intOf];omega
theorem Je {w:World} {f:aI} {x:jS} (m:jq w w.heap.size f x) (j:nV (ai f)) (b:Tab w) (h:Mx w) :
  Calls lM 22 #[.agg (BK f x)] w λ e w'=>zH f x e w'/\DD w w':=by
 obtain⟨B,d,a,g⟩:=box w 26 (BK f x);have u:=g.cell 0;have y:=g.cell 1;have v:=g.cell 2;have z:=g.cell 3;have s:=g.cell 4;have p:=qh (Gq ((m.keep a).up a.size) j (aB b a) (h.below a));clear m j b h;go_enter func22,ntmps22;go_upto_region 1 with (fail);rw[<- d];clear d;go_wp2_with (go_at_call 34;(with_reducible refine p.o.mono ?_);rintro t r ⟨q,n⟩;have o:=qh (a.trans (n.mono a.size));clear n;rcases q with ⟨k,rfl⟩ | ⟨k,B0,gb,m1,m2,m3,A,c,rfl,i⟩)
 .have l:=qh k;clear k;go_wp2;go_ret2;exact⟨.inl ⟨l.o,rfl⟩,o.o⟩
 .have l:=qh (b5 k i);clear k i;go_wp2;go_ret2;exact⟨.inr ⟨l.o.1,B0,gb,m1,m2,m3,A,c,rfl,l.o.2⟩,o.o⟩
theorem RG {w:World} {f:aI} {x:jS} (l:jq w w.heap.size f x) (i:nV (ai f)) (b:Tab w) (h:Mx w) :
  CS 13 #[.agg (BK f x)] w (bN bO (aX f)):=by
 obtain⟨B,d,a,g⟩:=box w 26 (BK f x);have u:=g.cell 0;have y:=g.cell 1;have v:=g.cell 2;have z:=g.cell 3;have s:=g.cell 4;have p:=qh (Gq ((l.keep a).up a.size) i (aB b a) (h.below a));clear l i b h;go_enter func13,ntmps13;go_upto_region 1 with (fail);rw[<- d];clear d;go_wp2_with (go_at_call 34;(with_reducible refine p.o.mono ?_);rintro t r ⟨q,m⟩;have n:=qh (a.trans (m.mono a.size));clear m;rcases q with ⟨j,rfl⟩ | ⟨j,B0,gb,m1,m2,m3,A,c,rfl,k⟩)
 .clear j;go_wp2;go_ret;exact⟨rfl,n.o⟩
 .have o:=qh j;clear j k;go_wp2;go_ret;exact⟨by rw[o.o];rfl,n.o⟩
theorem s4 {w:World} {g:Nat} {T:TypeId} {b d a c:Value} (h:ah w g T #[b,d,a,c]):w.cell? ⟨g,0,none⟩=some b/\w.frozen? ⟨g,0,none⟩=false/\w.cell? ⟨g,1,none⟩=some d/\w.frozen? ⟨g,1,none⟩=false/\w.cell? ⟨g,2,none⟩=some a/\w.frozen? ⟨g,2,none⟩=false/\w.cell? ⟨g,3,none⟩=some c/\w.frozen? ⟨g,3,none⟩=false:=⟨h.cell 0,h.frozen 0,h.cell 1,h.frozen 1,h.cell 2,h.frozen 2,h.cell 3,h.frozen 3⟩
end
def ajS (N:List au) (i:Int):List ItemD:=(N.filter (λ d=>decide (d.par=i))).map (·.it)
mutual
theorem ItemD.agm:∀ (g:ItemD) (a:List au) (b f d:Int) (c:List ByteArray),∃ t,g.add a b f d c=a ++ t
 | .mk k nm iff ph items sh cnt over ans cmp,a,b,f,d,c=>by
  rw[ItemD.add];obtain⟨t,e⟩:=uo items (a ++ [⟨.mk k nm iff ph items sh cnt over ans cmp,b,f,d,c⟩]) a.length 0 (d+1) (if k=3 then c ++ [nm] else c);exact⟨_ :: t,by rw[e,cB];rfl⟩
theorem uo:∀ (l:List ItemD) (a:List au) (b c d:Int) (f:List ByteArray),∃ t,iZ l a b c d f=a ++ t
 | [],a,_,_,_,_=>⟨[],by rw[iZ];simp⟩
 | it :: r,a,b,c,d,f=>by
  rw[iZ];split
  .exact⟨[],by simp⟩
  .obtain⟨t,e⟩:=ItemD.agm it a b c d f;obtain⟨g,h⟩:=uo r (it.add a b c d f) b (c+1) d f;exact⟨t ++ g,by rw[h,e,cB]⟩
end
def Jf (N:List au):Prop:=N.length<=300/\∀ d∈N,d.dm<=12
theorem Jf.left {a b:List au} (h:Jf (a ++ b)):Jf a:=⟨by have:=h.1;rw[cf] at this;omega,λ d c=>h.2 d (cv _ c)⟩
def aoa (N:List au) (d:au):ByteArray:=if 0<=d.par then (jY N d.par).it.nm else ⟨#[]⟩
def lN.bare (a:lN):lN:={ a with ch:=a.ch.map (λ r=>{ r with ph:=[] }) }
structure adt (N:List au):Prop where
 one:∀ d∈N,∀ e∈N,d.it.nm=e.it.nm->d=e
 ne:∀ d∈N,d.it.nm≠⟨#[]⟩
 par:∀ d∈N,d.par<0/\d.par = -1\/∃ i:Nat,d.par=i/\∃ h:i<N.length,aoa N d=N[i].it.nm
 num:∀ i (h:i<N.length),fA N N[i].it.nm=i
 kids:∀ i (h:i<N.length),ajS N i=N[i].it.items
 bare:∀ d∈N,d.it.k≠4->d.it.ans=XW
theorem adt.at_ {N:List au} (h:adt N) {d:au} (b:d∈N):jY N (fA N d.it.nm)=d:=by
 obtain⟨i,a,rfl⟩:=cC b;rw[h.num i a,iD a]
theorem adt.mem {N:List au} {s:ByteArray} (a:¬ fA N s<0):jY N (fA N s)∈N/\(jY N (fA N s)).it.nm=s:=by
 unfold fA at a ⊢;cases h:N.findIdx? (λ d=>decide (d.it.nm=s)) with
 | none=>rw[h] at a;exact absurd (by decide) a
 | some i =>
  rw[cA] at h;obtain⟨b,c,-⟩:=h;dsimp only;rw[iD b];exact⟨co b,by simpa using c⟩
theorem O3 {i:Nat}:∀ (l c:List aS),mD i c l=0->(∀ x∈l,∀ p∈c,p.nm≠x.nm)/\l.Pairwise (λ a b=>a.nm≠b.nm)
 | [],c,_=>⟨λ x h=>(by cases h),List.Pairwise.nil⟩
 | a :: r,c,h=>by
  rw[mD] at h;split at h
  .exact absurd h (by decide)
  split at h
  .exact absurd h (by decide)
  rename_i f;split at h
  .exact absurd h (by decide)
  split at h
  .rename_i k;exact absurd h k
  obtain⟨g,j⟩:=O3 r (c ++ [a]) h;have f:∀ p∈c,p.nm≠a.nm:=by simpa using f
  refine⟨λ x d p e=>?_,cD.2 ⟨λ x d=>g x d a (by simp),j⟩⟩;rcases cg.1 d with rfl | d
  .exact f p e
  .exact g x d p (cv _ e)
def xx (nm:ByteArray) (c:Int):ByteArray:=⟨(58 :: (nm.data.toList ++ 47 :: ca c)).toArray⟩
def qg (i:Nat):List UInt8:=[99,104,101,99,107,47] ++ ca (i:Int)
def uq (nm:ByteArray) (i:Nat):ByteArray:=⟨(nm.data.toList ++ 47 :: qg i).toArray⟩
abbrev Slot:=ByteArray × List ByteArray
def adu (l:aS):List Slot:=l.os.map (λ o=>(xx l.nm o.code,o.ph))
def xy (nm:ByteArray):Nat->List dY->List Slot
 | _,[]=>[]
 | k,r :: t=>(uq nm k,r.ph) :: xy nm (k+1) t
def Ky (x:ItemD):List Slot:=(x.nm,x.ph) :: xy x.nm 0 x.ans.ch
def eP (L:List aS) (N:List au):List Slot:=L.flatMap adu ++ N.flatMap (λ d=>Ky d.it)
def bJ (L:List aS) (N:List au):List ByteArray:=(eP L N).map (·.1)
def Dx (w:List UInt8) (L:List aS):Option (List ByteArray):=
 (L.flatMap (λ l=>l.os.map (λ o=>(l,o)))).findSome? (λ p=>if (cb w [47]).2.2=true/\p.1.nm.data.toList=(cb w [47]).1/\ca p.2.code=(cb w [47]).2.1 then some p.2.ph else none)
def BJ (rest:List UInt8):Nat->List dY->Option (List ByteArray)
 | _,[]=>none
 | k,r :: t=>if rest=qg k then some r.ph else BJ rest (k+1) t
def wZ (k:Int):Bool:=decide (k=1) || decide (k=4) || decide (k=6)
def opR (R:Option (List ByteArray)):List ByteArray × Bool:=match R with | some p=>(p,true) | none=>([],false)
def findF (L:List aS) (N:List au) (w:ByteArray):List ByteArray × Bool:=
 if w.data.toList.head?=some 58 then opR (Dx (w.data.toList.drop 1) L)
 else if fA N ⟨(cb w.data.toList [47]).1.toArray⟩<0 then ([],false)
 else if (cb w.data.toList [47]).2.2=false then ((jY N (fA N ⟨(cb w.data.toList [47]).1.toArray⟩)).it.ph,wZ (jY N (fA N ⟨(cb w.data.toList [47]).1.toArray⟩)).it.k)
 else opR (BJ (cb w.data.toList [47]).2.1 0 (jY N (fA N ⟨(cb w.data.toList [47]).1.toArray⟩)).it.ans.ch)
abbrev jO:=ByteArray × ByteArray
def iq (L:List aS) (N:List au) (i:Nat):List ByteArray->List jO
 | []=>[]
 | w :: r=>if (findF L N w).1 = [] then iq L N i r else (w,(findF L N w).1.getD i ⟨#[]⟩) :: iq L N i r
theorem Jg (n:Nat):ca (n:Int)=Lib.decDigits n:=by unfold ca;rw[if_neg (by omega)];simp
theorem Jh {n m:Nat} (h:ca (n:Int)=ca (m:Int)):n=m:=by
 rw[Jg,Jg] at h;have:=congrArg Dig.dO h
 rwa [Dig.sG,Dig.sG] at this
theorem Gs {n m:Int} (d:0<=n) (c:0<=m) (h:ca n=ca m):n=m:=by
 obtain⟨a,rfl⟩:=Int.eq_ofNat_of_zero_le d;obtain⟨b,rfl⟩:=Int.eq_ofNat_of_zero_le c;rw[Jh h]
theorem O4 {i j:Nat} (h:qg i=qg j):i=j:=Jh (List.append_cancel_left h)
theorem qU {a b:ByteArray} (h:a.data.toList=b.data.toList):a=b:=by
 cases a;cases b;simp only at h;rw[Array.toList_inj] at h;rw[h]
theorem O5 {s:List UInt8} (h:aP s=true) {c:UInt8} (a:c∈s):gp c=true:=by
 unfold aP at h;simp only[Bool.and_eq_true,List.all_eq_true] at h;exact h.2 c a
theorem oH {s:List UInt8} (h:aP s=true):(47:UInt8) ∉ s/\(58:UInt8) ∉ s/\s≠[]:=by
 refine⟨λ a=>absurd (O5 h a) (by decide),λ a=>absurd (O5 h a) (by decide),λ e=>?_⟩;subst e;exact absurd h (by decide)
theorem O6 {nl:Nat}:∀ (l c:List kN),qp nl c l=0->(∀ o∈l,1<=o.code/\o.code<=999/\(o.ph = []\/o.ph.length=nl)/\∀ p∈c,p.code≠o.code)/\l.Pairwise (λ a b=>a.code≠b.code)
 | [],c,_=>⟨λ x h=>(by cases h),List.Pairwise.nil⟩
 | a :: r,c,h=>by
  rw[qp] at h;split at h
  .exact absurd h (by decide)
  rename_i g;split at h
  .exact absurd h (by decide)
  rename_i i;split at h
  .rename_i d;exact absurd h d
  rename_i d;obtain⟨j,s⟩:=O6 r (c ++ [a]) h;have i:∀ p∈c,p.code≠a.code:=by simpa using i
  have g:1<=a.code/\a.code<=999:=by unfold aW at g;simp at g;omega
  have d:a.ph = []\/a.ph.length=nl:=by
   unfold pq at d;by_cases e:0<a.ph.length/\a.ph.length≠nl
   .rw[if_pos e] at d;exact absurd (by decide) d
   .by_cases e0:a.ph = []
    .exact .inl e0
    .have:=cw.2 e0;exact .inr (by omega)
  refine⟨λ x f=>?_,cD.2 ⟨λ x f e=>(j x f).2.2.2 a (by simp) e,s⟩⟩;rcases cg.1 f with rfl | f
  .exact⟨g.1,g.2,d,i⟩
  .obtain⟨n,m,q,k⟩:=j x f;exact⟨n,m,q,λ p t=>k p (cv _ t)⟩
theorem Ji {e:Nat}:∀ (l b:List aS),mD e b l=0->∀ x∈l,aP x.nm.data.toList=true/\qp e [] x.os=0
 | a :: r,b,h,x,c=>by
  rw[mD] at h;split at h
  .exact absurd h (by decide)
  rename_i f;split at h
  .exact absurd h (by decide)
  split at h
  .exact absurd h (by decide)
  split at h
  .rename_i d;exact absurd h d
  rename_i d;rcases cg.1 c with rfl | c
  .exact⟨by simpa using f,cj.1 d⟩
  .exact Ji r _ h x c
theorem O7 {F:Ex->Int × Int} {nl:Nat} {b:Bool} {p:List ByteArray} (h:pq F nl b p=0):p = []\/p.length=nl:=by
 unfold pq at h;by_cases e:0<p.length/\p.length≠nl
 .rw[if_pos e] at h;exact absurd h (by decide)
 .by_cases e0:p = []
  .exact .inl e0
  .have:=cw.2 e0;exact .inr (by omega)
theorem Jj {N:List au} {L:List aS} {b:Nat} {c:aY}:∀ (f n:Nat) (K:aY),N.length<n+f->uF N L b f n K=(0,c)->∀ i,n<=i->i<N.length->∃ d,(qw N L d b i).1=0
 | 0,n,K,h,_,i,h1,h2=>by omega
 | f+1,n,K,h,e,i,h1,h2=>by
  rw[uF,if_pos (by omega)] at e;split at e
  .rename_i a;exact absurd (congrArg Prod.fst e) a
  rename_i a;by_cases hi:i=n
  .exact⟨K,by rw[hi];exact cj.1 a⟩
  .exact Jj f (n+1) _ (by omega) e i (by omega) h2
theorem Dh {N:List au} {K:aY} {d:Nat} {n:Int}:∀ (l:List dY),oh N K d n l=0->∀ r∈l,r.ph = []\/r.ph.length=d
 | a :: t,h,r,c=>by
  rw[oh] at h;split at h
  .rename_i b;exact absurd h b
  split at h
  .rename_i b;exact absurd h b
  rename_i b;rcases cg.1 c with rfl | c
  .exact O7 (cj.1 b)
  .exact Dh t h r c
structure aau (f:aI):Prop where
 sh:adr (ai f)
 lp:f.lists.Pairwise (λ a b=>a.nm≠b.nm)
 ln:∀ l∈f.lists,aP l.nm.data.toList=true/\l.os.Pairwise (λ a b=>a.code≠b.code)/\∀ o∈l.os,1<=o.code/\o.code<=999/\(o.ph = []\/o.ph.length=f.ag.length)
 np:∀ d∈ai f,(d.it.ph = []\/d.it.ph.length=f.ag.length)/\(d.it.ph≠[]->wZ d.it.k=true)/\∀ r∈d.it.ans.ch,r.ph = []\/r.ph.length=f.ag.length
theorem adv {x:ItemD} (h:nZ x=false) (a:x.ph≠[]):wZ x.k=true:=by
 have:=cw.2 a;unfold nZ at h;simp only[Bool.or_eq_false_iff,Bool.and_eq_false_iff] at h;obtain⟨⟨⟨⟨⟨⟨⟨⟨⟨h,-⟩,-⟩,-⟩,-⟩,-⟩,-⟩,-⟩,-⟩,-⟩:=h;unfold wZ;rcases h with h | h
 .simp at h ⊢;omega
 .simp at h;exact absurd h a
theorem TU {x:ItemD} (h:nZ x=false) (a:x.k≠4):x.ans.ch = []:=by
 unfold nZ at h;simp only[Bool.or_eq_false_iff,Bool.and_eq_false_iff] at h;obtain⟨⟨⟨⟨⟨-,h⟩,-⟩,-⟩,-⟩,-⟩:=h;rcases h with h | h
 .simp at h;exact absurd h a
 .unfold Iw at h;simp at h;exact h.2
theorem O8 {f:aI} (h:aX f=0):aau f:=by
 obtain⟨g,z⟩:=aat h;have v:=O1 g;have s:mD f.ag.length [] f.lists=0:=by
  unfold aX nH at h;split at h
  .rename_i q;exact absurd h q
  split at h
  .rename_i q;exact absurd h q
  rename_i q;have q:jH f=0:=Decidable.byContradiction q;unfold jH at q;split at q
  .exact absurd q (by decide)
  .exact q
 have u:=zG (N:=ai f) (L:=f.lists) ((ai f).length+1) 0 (by omega) (by
  unfold fZ at g;split at g
  .rename_i q;exact absurd g q
  .exact g)
 refine⟨v,(O3 f.lists [] s).2,λ l k=>?_,λ d A=>?_⟩
 .obtain⟨y,w⟩:=Ji _ _ s l k;obtain⟨m,t⟩:=O6 _ _ w;exact⟨y,t,λ o n=>⟨(m o n).1,(m o n).2.1,(m o n).2.2.1⟩⟩
 .obtain⟨i,j,rfl⟩:=cC A;have b:=u i (cc _) j;obtain⟨K,a⟩:=Jj _ 0 [] (by omega) z i (cc _) j;obtain⟨x,c⟩:=af ((ai f)[i].it);rw[c];unfold mF at b;unfold qw at a;rw[iD j,c] at b a;dsimp only at b a;have e:nZ x=false:=by
   cases hb:nZ x
   .rfl
   .rw[hb] at b;split at b
    .exact absurd b (by decide)
    split at b
    .exact absurd b (by decide)
    split at b
    .exact absurd b (by decide)
    rw[if_pos rfl] at b;exact absurd b (by decide)
  split at a
  .rename_i q;exact absurd a q
  split at a
  .rename_i q;exact absurd a q
  rename_i q;refine⟨O7 (cj.1 q),adv e,λ r p=>?_⟩;by_cases hk:x.k=4
  .rw[if_neg (by omega),if_pos hk] at a;unfold xZ at a;split at a
   .rename_i q;exact absurd a q
   .rw[iD j,c] at a;exact Dh _ a r p
  .rw[TU e hk] at p;cases p
end Go.Proofs.YtcnagconagpkcaaGreatDoor
