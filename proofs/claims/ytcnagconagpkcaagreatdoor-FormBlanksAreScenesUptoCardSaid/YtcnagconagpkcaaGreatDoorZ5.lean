/- Lemmas. -/
import Derived.Test.YtcnagconagpkcaaGreatDoorZ4
set_option maxHeartbeats 2000000
set_option maxRecDepth 100000
open Go.Value renaming int->be, string->bh, slice->bi, bool->bk, ownBlock->bE
open Go.IntKind renaming i64->bf
open Go.Obj renaming cells->bj
open Go.Ending renaming returned->bl
open And renaming intro->bm
open Nat renaming le_refl->bn, le_trans->bo, zero_le->bt, succ_le_of_lt->bK
open Go.World renaming size_alloc->bp, ownsRow_nil->bv
open Go.Lib renaming containsS->bq
open List renaming mem_singleton->br, find?_eq_none->bs, getElem_mem->bw, drop_eq_nil_of_le->bx, find?_some->bA, mem_of_find?_eq_some->bB, eq_nil_of_length_eq_zero->bD
namespace Go.Proofs.YtcnagconagpkcaaGreatDoor
open Go.RowKit
attribute [local go_sem ↓] Go.wp_at_zero Go.wp_at_succ
structure MS (w:World) (B m1 m2:Nat) (jl jv:List (ByteArray × Value)) (cells:List aG) (loops:List aQ):Prop where
 c:aP w m1 jl
 cc:MR w B jl cells
 n:aP w m2 jv
 nn:Kv w B jv loops
theorem lV.up {w:World} {B B':Nat} {d:aQ} {cs:List Value} (h:lV w B d cs) (i:B<=B'):lV w B' d cs:=by
 obtain⟨⟨A,c,e,f,j⟩,a,b,g⟩:=h;exact⟨⟨A,c,e,f.more i,j⟩,a,b,g⟩
theorem lu.up {w:World} {B B':Nat} {d:aG} {cs:List Value} (h:lu w B d cs) (i:B<=B'):lu w B' d cs:=by
 obtain⟨⟨A,c,e,f,j⟩,a,b,g⟩:=h;exact⟨⟨A,c,e,f.more i,j⟩,a,b,g⟩
theorem MS.keep {w w':World} {B d e:Nat} {f c:List (ByteArray × Value)} {a:List aG} {loops:List aQ} (h:MS w B d e f c a loops) (b:IY w w') (g:B<=w.heap.size):MS w' B d e f c a loops:=
 ⟨h.c.below b h.c.lt,h.cc.keep (b.mono g),h.n.below b h.n.lt,h.nn.keep (b.mono g)⟩
theorem MS.up {w:World} {B B' j i:Nat} {m l:List (ByteArray × Value)} {a:List aG} {loops:List aQ} (h:MS w B j i m l a loops) (k:B<=B'):MS w B' j i m l a loops:=
 ⟨h.c,⟨h.cc.no,λ s v c=>by obtain⟨d,cs,g,b,e,f⟩:=h.cc.yes s v c;exact⟨d,cs,g,b,e,f.up k⟩,h.cc.len,h.cc.one⟩,h.n,
  ⟨h.nn.no,λ s v c=>by obtain⟨d,cs,g,b,e,f⟩:=h.nn.yes s v c;exact⟨d,cs,g,b,e,f.up k⟩,h.nn.len,h.nn.one⟩⟩
theorem rY {α:Type} {f:α->Bool} {l:List α} (h:∀ d∈l,f d=false):l.find? f=none:=by
 rw[bs];intro d a;rw[h d a];decide
theorem Ux {w:World} {B:Nat} {e:List (ByteArray × Value)} {l:List aG} (h:MR w B e l) (s:ByteArray) (at_:List ByteArray) :
  (fK e s=none/\wV l s at_=(0,5))\/∃ d cs,fK e s=some (.agg cs.toArray)/\lu w B d cs/\d∈l/\wV l s at_=if eX d.loops at_ then (d.kind,0) else (0,5):=by
 cases hg:fK e s with
 | none =>
  refine .inl ⟨rfl,?_⟩;unfold wV;rw[rY (λ d k=>by have:=h.no s hg d k;simp[this])]
 | some v =>
  obtain⟨d,cs,a,g,j,i⟩:=h.yes s v hg;refine .inr ⟨d,cs,by rw[j],i,a,?_⟩;unfold wV;cases hb:eX d.loops at_ with
  | false =>
   rw[rY (λ x b=>by
    by_cases hq:x.nm=s
    .have:=Cb (f:=aG.nm) h.one b a (by rw[hq,g]);subst this;simp[hb]
    .simp[hq])]
   rfl
  | true =>
   cases hf:l.find? (λ c=>decide (c.nm=s) && eX c.loops at_) with
   | none=>exact absurd (bs.1 hf d a) (by simp[g,hb])
   | some x =>
    have b:=bA hf;rw[Bool.and_eq_true,decide_eq_true_iff] at b;have:=Cb (f:=aG.nm) h.one (bB hf) a (by rw[b.1,g]);subst this;rfl
theorem Uy {w:World} {B:Nat} {a:List (ByteArray × Value)} {l:List aQ} (h:Kv w B a l) (s:ByteArray) (at_:List ByteArray) :
  (fK a s=none/\vK l s at_=none)\/∃ d cs,fK a s=some (.agg cs.toArray)/\lV w B d cs/\d∈l/\vK l s at_=if eX d.loops at_ then some (d.loops ++ [d.nm]) else none:=by
 cases hg:fK a s with
 | none =>
  refine .inl ⟨rfl,?_⟩;unfold vK;rw[rY (λ d j=>by have:=h.no s hg d j;simp[this])]
 | some v =>
  obtain⟨d,cs,b,c,i,g⟩:=h.yes s v hg;refine .inr ⟨d,cs,by rw[i],g,b,?_⟩;unfold vK;cases hf:l.find? (λ n=>decide (n.nm=s)) with
  | none=>exact absurd (bs.1 hf d b) (by simp[c])
  | some x =>
   have e:=bA hf;rw[decide_eq_true_iff] at e;have:=Cb (f:=aQ.nm) h.one (bB hf) b (by rw[e,c]);subst this;rfl
theorem abt (e:Ex) (b:List aG) (a:List aQ) (p:e.k=1) (y u:List (ByteArray × Value)) (f d B:Nat) (at_:List ByteArray) (A:Option Addr) (c:Nat) (cs:List Value) (w:World) (l:aZ w B e cs) (v:MS w B f d y u b a) (F:at_.length<=maxLen) (m:bV w B A at_) (L:at_.length<=c) (s:B<=w.heap.size) :
  IE 218 #[.agg #[.map (some f),.map (some d)],.agg cs.toArray,bi A at_.length c] w (.tuple #[be bf (e.kind b a at_).1,be bf (e.kind b a at_).2]):=by
 have x:=qh l;obtain⟨K,Q,O,D,l,q,C⟩:=l;rename_i j k h i cs;have t:=qh (show e.kind b a at_=(e.v.k,0) by rw[jX,if_pos p]);have r:(e.k == 1)=true:=by rw[p];rfl
 clear l q C v m s p;show Calls Tryz.prog 218 #[.agg #[.map (some f),.map (some d)],.agg (BC e j k h e.ar.length i),bi A at_.length c] w _;go_enter Tryz.func218,Tryz.ntmps218;go_upto_region 1 with (fail);obtain⟨W,g⟩:=aC (((w.alloc (bj #[.map (some f),.map (some d)] 162 (0,0))).alloc (.cells (BC e j k h e.ar.length i) 67 (0,0))));have n:IY w W:=by rw[g];exact (((Below.refl _ w).alloc (bn _) _).alloc (by simp) _)
 have B0:ah W (w.heap.size) 162 #[.map (some f),.map (some d)]:=by
  rw[g];have:=ah.new w 162 #[.map (some f),.map (some d)];have:=this.alloc (.cells (BC e j k h e.ar.length i) 67 (0,0));exact this
 have B1:ah W (w.heap.size+1) 67 (BC e j k h e.ar.length i):=by
  rw[g];have:=ah.new (w.alloc (bj #[.map (some f),.map (some d)] 162 (0,0))) 67 (BC e j k h e.ar.length i)
  rwa [bp] at this
 have o:W.heap.size=w.heap.size+2:=by rw[g];simp
 rw[<- g];clear g o;obtain⟨I,P,N,M,H,G,J,E⟩:=ah.c8 B1;clear B0 B1;go_wp2_with fail;go_ret2;exact⟨by rw[t.o];rfl,n⟩
theorem abu (e:Ex) (b:List aG) (a:List aQ) (m:e.k=3) (K F:List (ByteArray × Value)) (f d B:Nat) (at_:List ByteArray) (A:Option Addr) (c:Nat) (cs:List Value) (w:World) (o:aZ w B e cs) (G:MS w B f d K F b a) (y:at_.length<=maxLen) (l:bV w B A at_) (U:at_.length<=c) (u:B<=w.heap.size) :
  IE 218 #[.agg #[.map (some f),.map (some d)],.agg cs.toArray,bi A at_.length c] w (.tuple #[be bf (e.kind b a at_).1,be bf (e.kind b a at_).2]):=by
 have H:=qh o;obtain⟨T,hs,Y,M,o,z,L⟩:=o;rename_i k n i j cs;have v:=qh (show e.kind b a at_=if bq at_ e.nm then (2,0) else (0,5) by rw[jX,if_neg (by omega),if_neg (by omega),if_pos m]);have C:(e.k == 1)=false:=by rw[m];rfl
 have E:(e.k == 2)=false:=by rw[m];rfl
 have J:(e.k == 3)=true:=by rw[m];rfl
 obtain⟨q,t⟩:=af (bq at_ e.nm);have r:=qh t;have I:=qh (λ w' (D:IY w w')=>pq A c B at_ e.nm w' y (l.below (D.mono u)));clear o z L G l u t m;show Calls Tryz.prog 218 #[.agg #[.map (some f),.map (some d)],.agg (BC e k n i e.ar.length j),bi A at_.length c] w _;go_enter Tryz.func218,Tryz.ntmps218;go_upto_region 1 with (fail);obtain⟨W,h⟩:=aC (((w.alloc (bj #[.map (some f),.map (some d)] 162 (0,0))).alloc (.cells (BC e k n i e.ar.length j) 67 (0,0))));have g:IY w W:=by rw[h];exact (((Below.refl _ w).alloc (bn _) _).alloc (by simp) _)
 have B0:ah W (w.heap.size) 162 #[.map (some f),.map (some d)]:=by
  rw[h];have:=ah.new w 162 #[.map (some f),.map (some d)];have:=this.alloc (.cells (BC e k n i e.ar.length j) 67 (0,0));exact this
 have B1:ah W (w.heap.size+1) 67 (BC e k n i e.ar.length j):=by
  rw[h];have:=ah.new (w.alloc (bj #[.map (some f),.map (some d)] 162 (0,0))) 67 (BC e k n i e.ar.length j)
  rwa [bp] at this
 have s:W.heap.size=w.heap.size+2:=by rw[h];simp
 rw[<- h];clear h s;obtain⟨R,Z,X,V,Q,P,S,O⟩:=ah.c8 B1;clear B0 B1;go_wp2_with fail;refine (I.o W g).mono ?_;rw[r.o];rintro x N ⟨rfl,rfl⟩;cases q
 .have p:=qh (show e.kind b a at_=(0,5) by rw[v.o,r.o];rfl);go_wp2_with fail;go_ret2;exact⟨by rw[p.o];rfl,g⟩
 .have p:=qh (show e.kind b a at_=(2,0) by rw[v.o,r.o];rfl);go_wp2_with fail;go_ret2;exact⟨by rw[p.o];rfl,g⟩
theorem abv (e:Ex) (a:List aG) (b:List aQ) (E:e.k=2) (jl jv:List (ByteArray × Value)) (l m B:Nat) (at_:List ByteArray) (A:Option Addr) (c:Nat) (cs:List Value) (w:World) (F:aZ w B e cs) (M:MS w B l m jl jv a b) (ha:at_.length<=maxLen) (p:bV w B A at_) (hc:at_.length<=c) (X:B<=w.heap.size) :
  IE 218 #[.agg #[.map (some l),.map (some m)],.agg cs.toArray,bi A at_.length c] w (.tuple #[be bf (e.kind a b at_).1,be bf (e.kind a b at_).2]):=by
 have ab:=qh F;obtain⟨hn,hs,hl,Qh,F,hr,hi⟩:=F;rename_i z r u x cs;have J:=qh (show e.kind a b at_=wV a e.nm at_ by rw[jX,if_neg (by omega),if_pos E]);have aa:(e.k == 1)=false:=by rw[E];rfl
 have ak:(e.k == 2)=true:=by rw[E];rfl
 have Y:=qh hn;have V:=qh M;have i:=qh (bm ha (bm p (bm hc X)));have Z:=qh (Ux M.cc e.nm at_);clear F hr hi M p X E;show Calls Tryz.prog 218 #[.agg #[.map (some l),.map (some m)],.agg (BC e z r u e.ar.length x),bi A at_.length c] w _;go_enter Tryz.func218,Tryz.ntmps218;go_upto_region 1 with (fail);obtain⟨W,o⟩:=aC (((w.alloc (bj #[.map (some l),.map (some m)] 162 (0,0))).alloc (.cells (BC e z r u e.ar.length x) 67 (0,0))));have j:IY w W:=by rw[o];exact (((Below.refl _ w).alloc (bn _) _).alloc (by simp) _)
 have B0:ah W (w.heap.size) 162 #[.map (some l),.map (some m)]:=by
  rw[o];have:=ah.new w 162 #[.map (some l),.map (some m)];have:=this.alloc (.cells (BC e z r u e.ar.length x) 67 (0,0));exact this
 have B1:ah W (w.heap.size+1) 67 (BC e z r u e.ar.length x):=by
  rw[o];have:=ah.new (w.alloc (bj #[.map (some l),.map (some m)] 162 (0,0))) 67 (BC e z r u e.ar.length x)
  rwa [bp] at this
 have H:W.heap.size=w.heap.size+2:=by rw[o];simp
 rw[<- o];clear o H;obtain⟨gG,fZ,fV,gI,gJ,gK,gQ,fM⟩:=ah.c8 B1;clear B1;have S:=qh (V.o.c.below j V.o.c.lt);have ac:W.cell? ⟨w.heap.size,0,none⟩=some (.map (some l)):=B0.cell 0;rcases Z.o with ⟨C,y⟩ | ⟨d,ds,C,hd,ae,y⟩
 .skip
  have n:(Instr.lookup 159 (.map (some l)) (bh e.nm) true).run Tryz.prog W = .ok (.tuple #[.agg #[bh ⟨#[]⟩,be bf 0,bi none 0 0],bk false]) W:=by
   have h:=S.o.look Tryz.underlying159 (zeroCell W) Y.o;rw[C] at h;exact h
  have D:=qh y;clear y C;go_upto_region 6 with (fail);obtain⟨W2,g⟩:=aC (W.alloc (bj #[bh ⟨#[]⟩,be bf 0,bi none 0 0] 51 (0,0)));have k:IY W W2:=g▸(Below.refl _ W).alloc (bn _) _;have f:=j.trans (k.mono j.size);have B2:ah W2 W.heap.size 51 #[bh ⟨#[]⟩,be bf 0,bi none 0 0]:=g▸ah.new W _ _;rw[<- g];clear g n;have v:=qh (show e.kind a b at_=(0,5) by rw[J.o,D.o]);clear k B2;go_wp2_with (fail);go_ret2;exact⟨by rw[v.o];rfl,f⟩
 .obtain⟨⟨A',c',rfl,R,al⟩,ad,s,K⟩:=hd;have P:=qh (bm R s);clear R s K;have n:(Instr.lookup 159 (.map (some l)) (bh e.nm) true).run Tryz.prog W = .ok (.tuple #[.agg #[bh d.nm,be bf d.kind,bi A' d.loops.length c'],bk true]) W:=by
   have h:=S.o.look Tryz.underlying159 (zeroCell W) Y.o;rw[C] at h;exact h
  have D:=qh y;clear y C;go_upto_region 6 with (fail);obtain⟨W2,g⟩:=aC (W.alloc (bj #[bh d.nm,be bf d.kind,bi A' d.loops.length c'] 51 (0,0)));have k:IY W W2:=g▸(Below.refl _ W).alloc (bn _) _;have f:=j.trans (k.mono j.size);have B2:ah W2 W.heap.size 51 #[bh d.nm,be bf d.kind,bi A' d.loops.length c']:=g▸ah.new W _ _;rw[<- g];clear g n;obtain⟨q,L⟩:=af (eX d.loops at_);have U:=qh L;have G:=qh (show Calls Tryz.prog 245 #[bi A' d.loops.length c',bi A at_.length c] W2 λ e N=>e = bl (bk q)/\IY W2 N by
   have h:=yJ d.loops at_ A' c' A c B W2 P.o.2 i.o.1 (P.o.1.below (f.mono i.o.2.2.2)) (i.o.2.1.below (f.mono i.o.2.2.2)) i.o.2.2.1 (bo i.o.2.2.2 f.size);rw[L] at h;exact h)
  have t:=qh B2;have uf:W2.cell? ⟨W.heap.size,0,none⟩=some (bh d.nm):=B2.cell 0;have ug:W2.cell? ⟨W.heap.size,1,none⟩=some (be bf d.kind):=B2.cell 1;have Cc:W2.cell? ⟨W.heap.size,2,none⟩=some (bi A' d.loops.length c'):=B2.cell 2;clear k L B2;go_wp2_with fail;refine G.o.mono ?_;rintro Q W9 ⟨rfl,I⟩;have O:=f.trans (I.mono f.size);have T:=t.o.below I t.o.lt;clear uf ug Cc;have v1:W9.cell? ⟨W.heap.size,1,none⟩=some (be bf d.kind):=T.cell 1;clear I T;cases q
  .have v:=qh (show e.kind a b at_=(0,5) by rw[J.o,D.o,U.o];rfl);go_wp2_with fail;go_ret2;exact⟨by rw[v.o];rfl,O⟩
  .have v:=qh (show e.kind a b at_=(d.kind,0) by rw[J.o,D.o,U.o];rfl);go_wp2_with fail;go_ret2;exact⟨by rw[v.o];rfl,O⟩
theorem EF:(Tryz.prog.info? 3).map (λ i=>(i.zero,i.size,i.bytes))=some (some (.int .i64 0),1,8):=by kernel_rfl
theorem rZ {w:World} {B' n:Nat} {e:TypeId} {v:Value} {l:List Int} (h:w.ownsRow B' e 1 v n (bI bf l)):n=l.length/\∃ A c,v = bi A l.length c/\Reads w w.heap.size 1 A l.length (bI bf l)/\∀ ad,A=some ad->B'<=ad.block:=by
 obtain⟨i,b⟩:=id h;have k:n=l.length:=by rw[qi] at i;omega
 subst k;refine⟨rfl,?_⟩;rcases b with ⟨rfl,f⟩ | ⟨g,a,j,rfl,d,o,e3,p,q⟩
 .have m:l = []:=bD f;subst m;exact⟨none,0,rfl,Reads.none_,λ _ h=>by cases h⟩
 .exact⟨_,a,rfl,Reads.ig (c:=a) h,λ ad h=>by injection h with h;rw[<- h];exact d⟩
theorem og {w:World} {B' n c:Nat} {A:Option Addr} {e:TypeId} {l:List Int} (h:w.ownsRow B' e 1 (bi A l.length c) n (bI bf l)):Reads w w.heap.size 1 A l.length (bI bf l)/\∀ ad,A=some ad->B'<=ad.block:=by
 obtain⟨-,A',c',e,h⟩:=rZ h;injection e with e1 _ _;rw[e1];exact h
theorem xR (b:List Int) (a:Int):bI bf (b ++ [a])=bI bf b ++ [be bf a]:=by simp[bI]
theorem own_below {w w':World} {B size n:Nat} {e:TypeId} {v:Value} {xs:List Value} (h:w.ownsRow B e size v n xs) (j:IY w w'):w'.ownsRow B e size v n xs:=by
 refine⟨h.1,h.2.imp id ?_⟩;rintro ⟨a,d,b,f,g,i,e3⟩;have c:a<w.heap.size:=(h.lt a (by rw[f];rfl)).2;exact⟨a,d,b,f,g,by rw[j.block a c];exact i,e3⟩
theorem SX (a:Int):(gV a).2<=1099511627776:=by
 unfold gV
 repeat' split
 all_goals decide
def Qz (cells:List aG) (loops:List aQ) (jl jv:List (ByteArray × Value)) (m1 m2:Nat) (e:Ex):Prop:=∀ (B:Nat) (at_:List ByteArray) (A:Option Addr) (c:Nat) (cs:List Value) (w:World),aZ w B e cs->MS w B m1 m2 jl jv cells loops->at_.length<=maxLen->bV w B A at_->at_.length<=c->B<=w.heap.size ->
  IE 218 #[.agg #[.map (some m1),.map (some m2)],.agg cs.toArray,bi A at_.length c] w (.tuple #[be bf (e.kind cells loops at_).1,be bf (e.kind cells loops at_).2])
theorem abx (e:Ex) (b:List aG) (d:List aQ) (x:e.k=4) (jl jv:List (ByteArray × Value)) (z t B:Nat) (at_:List ByteArray) (A:Option Addr) (c:Nat) (cs:List Value) (w:World) (hP:uh e) (hI:∀ a∈e.ar,Qz b d jl jv z t a) (V:aZ w B e cs) (hw:MS w B z t jl jv b d) (ha:at_.length<=maxLen) (H:bV w B A at_) (hc:at_.length<=c) (hB:B<=w.heap.size) :
  IE 218 #[.agg #[.map (some z),.map (some t)],.agg cs.toArray,bi A at_.length c] w (.tuple #[be bf (e.kind b d at_).1,be bf (e.kind b d at_).2]):=by
 have a2:=qh V;obtain⟨hn,hs,hl,Qh,V,hr,hi⟩:=V;rename_i S c1 R c2 cs;have HK:=qh (show e.kind b d at_=if (bW b d e.ar at_ []).1≠0 then (0,(bW b d e.ar at_ []).1) else vJ e.op (bW b d e.ar at_ []).2 by rw[jX,if_neg (by omega),if_neg (by omega),if_neg (by omega),if_neg (by omega)]);have a1:(e.k == 1)=false:=by rw[x];rfl
 have a7:(e.k == 2)=false:=by rw[x];rfl
 have a0:(e.k == 3)=false:=by rw[x];rfl
 have a5:(e.k == 5)=false:=by rw[x];rfl
 have SV:=qh hw;have l:=qh (bm ha (bm H (bm hc hB)));have HR:=qh (bm hr hi);have HI:=qh hI;have HA:=qh Qh;have U:=qh (bm (hP.op4 x) (hP.a4 x));obtain⟨i0,Z,ax,aE,aa⟩:=info_parts EF;unfold maxLen at Qh;clear V hr hi hw H hB x hI hP;show Calls Tryz.prog 218 #[.agg #[.map (some z),.map (some t)],.agg (BC e S c1 R e.ar.length c2),bi A at_.length c] w _;go_enter Tryz.func218,Tryz.ntmps218;go_upto_region 1 with (fail);obtain⟨W,G⟩:=aC (((w.alloc (bj #[.map (some z),.map (some t)] 162 (0,0))).alloc (.cells (BC e S c1 R e.ar.length c2) 67 (0,0))));have O:IY w W:=by rw[G];exact (((Below.refl _ w).alloc (bn _) _).alloc (by simp) _)
 have B0:ah W (w.heap.size) 162 #[.map (some z),.map (some t)]:=by
  rw[G];have:=ah.new w 162 #[.map (some z),.map (some t)];have:=this.alloc (.cells (BC e S c1 R e.ar.length c2) 67 (0,0));exact this
 have B1:ah W (w.heap.size+1) 67 (BC e S c1 R e.ar.length c2):=by
  rw[G];have:=ah.new (w.alloc (bj #[.map (some z),.map (some t)] 162 (0,0))) 67 (BC e S c1 R e.ar.length c2)
  rwa [bp] at this
 have ao:W.heap.size=w.heap.size+2:=by rw[G];simp
 rw[<- G];obtain⟨aq,aD⟩:=ah.c2 B0;obtain⟨gG,fZ,fV,gI,gJ,gK,gQ,fM⟩:=ah.c8 B1;have m:IY W W:=Below.refl _ _;clear G ao;go_wp2_with fail;go_loopw [101,14] (λ i kd wr=>∃ (k:Nat) (v:Value) (ks:List Int),k<=e.ar.length/\i = be bf k/\kd=v/\Hid (wr.ownsRow W.heap.size 3 1 v k (bI bf ks))/\Hid (bW b d e.ar at_ []=bW b d (e.ar.drop k) at_ ks)/\IY W wr) (λ i _ _=>e.ar.length - (intOf i).toNat)
 case atStart=>exact⟨0,_,[],bt _,rfl,rfl,qh (bv _ _ _ _),qh (by rfl),m⟩
 case round =>
  obtain⟨k,v,ks,x,rfl,rfl,HO,HD,m⟩:=hrel;obtain⟨N,A5,c5,rfl,-⟩:=rZ HO.o;have ay:=qh N;clear N;have iT:=m.size;have n:IY w wr:=O.trans (m.mono O.size);have T:Below B w wr:=n.mono l.o.2.2.2;have C0:=B0.below m B0.lt;have C1:=B1.below m B1.lt;clear aq aD gG fZ fV gI gJ gK gQ fM;obtain⟨Fq,Fv⟩:=ah.c2 C0;obtain⟨kV,ac,ar,av,Y,ab,aw,ap⟩:=ah.c8 C1;by_cases hlt:k<e.ar.length
  .obtain⟨ad,ci,rfl,hb,D,f⟩:=aZ.arg (HR.o.1.below T) (λ i h=>(HR.o.2 i h).keep T) hlt;obtain⟨a,r⟩:=af (e.ar[k]);have K:a∈e.ar:=by rw[<- r];exact bw hlt
   obtain⟨g,F⟩:=af (a.kind b d at_);obtain⟨Q,L⟩:=g;have Qn:=qh F;have lq:=qh (show bW b d (e.ar.drop k) at_ ks=if L≠0 then (L,ks) else bW b d (e.ar.drop (k+1)) at_ (ks ++ [Q]) by
    rw[DJ _ _ _ _ _ _ hlt,r,F])
   have X:=qh hlt;have P:=qh (λ w' h1 h2 h3 h4=>HI.o a K B at_ A c ci w' h1 h2 l.o.1 h3 l.o.2.2.1 h4);rw[r] at D;have nP:=qh D;obtain⟨aR,a4,a6,a8,ak,al,am⟩:=D;rename_i A3 c3 A4 c4 a3;obtain⟨kC,kT,nZ,tV,tX,tY,tZ,wJ⟩:=Cm f;clear ak al am f r K F;go_upto_region 25 with (fail);obtain⟨W3,p⟩:=aC (wr.alloc (.cells (BC a A3 c3 A4 a.ar.length c4) 67 (0,0)));have s:IY wr W3:=p▸(Below.refl _ wr).alloc (bn _) _;have B3:ah W3 wr.heap.size 67 (BC a A3 c3 A4 a.ar.length c4):=p▸ah.new wr _ _;have Us:=qh (show W3.ownsRow W.heap.size 3 1 _ k (bI bf ks) from p▸HO.o.alloc _);rw[<- p];clear p kC kT nZ tV tX tY tZ wJ Fq Fv kV ac ar av Y ab aw ap;have D0:=C0.below s C0.lt;obtain⟨Fq,Fv⟩:=ah.c2 D0;obtain⟨Ir,Fz,Iu,Jm,Jn,Jo,Jp,Jq⟩:=ah.c8 B3;have I:IY w W3:=n.trans (s.mono n.size);have M:IY W W3:=m.trans (s.mono iT);go_wp2_with fail;refine (P.o W3 (nP.o.keep (s.mono (bo l.o.2.2.2 n.size))) (SV.o.keep I l.o.2.2.2) (l.o.2.1.below (I.mono l.o.2.2.2)) (bo l.o.2.2.2 I.size)).mono ?_;rw[Qn.o];rintro en w4 ⟨rfl,C⟩;have Uz:=I.trans (C.mono I.size);have q:IY W w4:=M.trans (C.mono M.size);have Af:=qh (own_below Us.o C);clear Fq Fv Ir Fz Iu Jm Jn Jo Jp Jq D0 B3 P;by_cases h0:L=0;rotate_left
   .have bg:(L != 0)=true:=by simpa using h0
    have jA:=qh (show e.kind b d at_=(0,L) by rw[HK.o,HD.o,lq.o,if_pos h0,if_pos h0]);clear h0;go_wp2_with fail;go_ret2;exact⟨by rw[jA.o];rfl,Uz⟩
   .subst h0;have ae:=qh (show bW b d e.ar at_ []=bW b d (e.ar.drop (k+1)) at_ (ks ++ [Q]) by rw[HD.o,lq.o,if_neg (by decide)]);have y:∀ g,bE (.slice A5 ks.length c5)=some g->W.heap.size<=g:=λ g F=>(Af.o.lt g F).1;have IJ:=qh y;clear y;go_wp2_with (at_builtin;refine wpList_append_own _ rfl _ _ 54 rfl W.heap.size 3 i0 (.int .i64 0) 1 8 Tryz.underlying54 Z ax aE aa rfl (by decide) _ _ _ rfl (Af.o.alloc _) ⟨w4.heap.size,0,none⟩ 1 1 [.int .i64 Q] rfl rfl ?c1 ?c2 ?c3 ?c4 ?c5 ?_)
    case c1=>intro j u hj;cases j <;> simp_all[go_sem]
    case c2=>intro u hu;simp only[br] at hu;subst hu;rfl
    case c3=>exact bo X.o HA.o
    case c4=>(have h:=bo (bK X.o) (bo U.o.2.2 (SX e.op));omega)
    case c5=>(have h:=q.size;simp;omega)
    intro v2 w5 o J _;have XE:IY W w5:=(q.alloc (by have:=q.size;omega) _).grown J (by have:=q.size;simp;omega) (λ g F=>by have:=IJ.o g F;omega);have NM:=qh (show w5.ownsRow W.heap.size 3 1 v2 (k+1) (bI bf (ks ++ [Q])) by rw[xR];exact o);clear o J;go_wp2;go_roundw
    case rel=>exact⟨k+1,v2,ks ++ [Q],X.o,by go_num,rfl,NM,ae,XE⟩
    case measure =>
     have:=X.o;simp[intOf];omega
  .have aL:k=e.ar.length:=by omega
   have an:=qh (show bW b d e.ar at_ []=(0,ks) by rw[HD.o,bx (by omega),bW]);have E:ks.length=e.ar.length:=by have:=ay.o;omega
   have jA:=qh (show e.kind b d at_=vJ e.op ks by rw[HK.o,an.o];exact if_neg (λ h=>h rfl));have aM:=qh (Qx e.op ks A5 c5 wr.heap.size wr U.o.1.1 U.o.1.2 (by rw[E];exact U.o.2) (by rw[E];exact HA.o) (og HO.o).1 (bn _));clear aL E;go_wp2_with fail;refine aM.o.mono ?_;rintro en w9 ⟨rfl,eP⟩;go_wp2_with fail;go_ret2;exact⟨by rw[jA.o];try rfl,n.trans (eP.mono n.size)⟩
theorem xU:(Tryz.prog.info? 9).map (λ i=>(i.zero,i.size,i.bytes))=some (some (.string ByteArray.empty),1,16):=by kernel_rfl
theorem cloneS (l:List ByteArray) (A:Option Addr) (c B:Nat) (w:World) (m:bV w B A l) (n:l.length<=1099511627776) :
  Calls Tryz.prog 38 #[bi A l.length c] w λ e w'=>∃ v,e = bl v/\w'.ownsRow w.heap.size 9 1 v l.length (jq l)/\IY w w':=by
 rcases Nat.eq_zero_or_pos l.length with h | h
 .have i:=bD h;subst i;cases A with
  | none=>exact (Tryz.slices_Clone_string_nil 0 c w).mono λ _ _ ⟨d,j⟩=>⟨_,d,bv _ _ _ _,j▸Below.refl _ _⟩
  | some a=>exact (Tryz.slices_Clone_string_zero a c w).mono λ _ _ ⟨v,d,f,_,g⟩=>⟨v,d,f,g⟩
 .obtain⟨b,o,rfl,-,k⟩:=m.plain h;refine (Tryz.slices_Clone_string b o l.length c l w (bn _) (by omega) (bV.cells k)).mono λ _ _ ⟨v,d,f,_,g⟩=>⟨v,d,?_,g⟩;rw[List.take_length] at f;exact f
theorem SY {w:World} {B n size g cap m:Nat} {e:TypeId} {d:List Value} (h:w.ownsRow B e size (bi (some ⟨g,0,none⟩) m cap) n d):n<=cap:=by
 rcases h.2 with ⟨h,-⟩ | ⟨i,a,c,b,-,-,f,-⟩
 .cases h
 .injection b with _ _ e3;omega
theorem Ci (l:List ByteArray) (s:ByteArray):jq (l ++ [s])=jq l ++ [bh s]:=by simp[jq]
theorem NP {α:Type}:∀ (l:List α) (h:l.length=1) (b:0<l.length),l = [l[0]]
 | [a],_,_=>rfl
theorem kH (ad:Addr):ad.add 0=ad:=by unfold Addr.add;simp
theorem own_base {w:World} {B B' size n:Nat} {e:TypeId} {v:Value} {xs:List Value} (h:w.ownsRow B e size v n xs) (d:B'<=B):w.ownsRow B' e size v n xs:=by
 refine⟨h.1,h.2.imp id ?_⟩;rintro ⟨i,b,a,c,f,g⟩;exact⟨i,b,a,c,bo d f,g⟩
theorem aby (e:Ex) (f:List aG) (b:List aQ) (D:e.k=5) (jl jv:List (ByteArray × Value)) (J x B:Nat) (at_:List ByteArray) (A:Option Addr) (c:Nat) (cs:List Value) (w:World) (hP:uh e) (hI:∀ a∈e.ar,Qz f b jl jv J x a) (Cj:∀ d∈b,d.loops.length<=1048576) (hx:aZ w B e cs) (hw:MS w B J x jl jv f b) (ha:at_.length<=maxLen) (ae:bV w B A at_) (hc:at_.length<=c) (hB:B<=w.heap.size) :
  IE 218 #[.agg #[.map (some J),.map (some x)],.agg cs.toArray,bi A at_.length c] w (.tuple #[be bf (e.kind f b at_).1,be bf (e.kind f b at_).2]):=by
 have a5:=qh hx;obtain⟨hn,hs,hl,Qh,hx,hr,hi⟩:=hx;rename_i A1 c1 A2 K cs;have HK:=qh (show e.kind f b at_=(match vK b e.nm at_ with
   | none=>(0,5)
   | some at'=>qV f b e.ar at' e.op) by rw[jX,if_neg (by omega),if_neg (by omega),if_neg (by omega),if_pos D];rfl)
 have a4:(e.k == 1)=false:=by rw[D];rfl
 have bb:(e.k == 2)=false:=by rw[D];rfl
 have a3:(e.k == 3)=false:=by rw[D];rfl
 have a9:(e.k == 5)=true:=by rw[D];rfl
 have WI:=qh hn;have SV:=qh hw;have p:=qh (bm ha (bm ae (bm hc hB)));have HN:=qh (Uy hw.nn e.nm at_);have HP:=qh (bm (hP.op5 D) (hP.a5 D));have HR:=qh (bm hr hi);have HI:=qh hI;have MV:=qh Cj;obtain⟨i0,ab,an,aq,ac⟩:=info_parts xU;clear hx hr hi hw ae hB D hI hP Cj;show Calls Tryz.prog 218 #[.agg #[.map (some J),.map (some x)],.agg (BC e A1 c1 A2 e.ar.length K),bi A at_.length c] w _;go_enter Tryz.func218,Tryz.ntmps218;go_upto_region 1 with (fail);obtain⟨W,hW⟩:=aC (((w.alloc (bj #[.map (some J),.map (some x)] 162 (0,0))).alloc (.cells (BC e A1 c1 A2 e.ar.length K) 67 (0,0))));have I:IY w W:=by rw[hW];exact (((Below.refl _ w).alloc (bn _) _).alloc (by simp) _)
 have B0:ah W (w.heap.size) 162 #[.map (some J),.map (some x)]:=by
  rw[hW];have:=ah.new w 162 #[.map (some J),.map (some x)];have:=this.alloc (.cells (BC e A1 c1 A2 e.ar.length K) 67 (0,0));exact this
 have B1:ah W (w.heap.size+1) 67 (BC e A1 c1 A2 e.ar.length K):=by
  rw[hW];have:=ah.new (w.alloc (bj #[.map (some J),.map (some x)] 162 (0,0))) 67 (BC e A1 c1 A2 e.ar.length K)
  rwa [bp] at this
 have aE:W.heap.size=w.heap.size+2:=by rw[hW];simp
 rw[<- hW];clear hW aE;obtain⟨gG,fZ,fV,gI,gJ,gK,gQ,fM⟩:=ah.c8 B1;have ao:=qh (SV.o.n.below I SV.o.n.lt);have Y:W.cell? ⟨w.heap.size,1,none⟩=some (.map (some x)):=B0.cell 1;rcases HN.o with ⟨E,hf⟩ | ⟨d,ds,E,hd,ap,hf⟩
 .skip
  have Z:(Instr.lookup 160 (.map (some x)) (bh e.nm) true).run Tryz.prog W = .ok (.tuple #[.agg #[bh ⟨#[]⟩,bi none 0 0],bk false]) W:=by
   have h:=ao.o.look Tryz.underlying160 (oM W) WI.o;rw[E] at h;exact h
  have HF:=qh hf;clear hf E;go_upto_region 15 with (fail);obtain⟨W2,r⟩:=aC (W.alloc (bj #[bh ⟨#[]⟩,bi none 0 0] 184 (0,0)));have s:IY W W2:=r▸(Below.refl _ W).alloc (bn _) _;have m:=I.trans (s.mono I.size);have B2:ah W2 W.heap.size 184 #[bh ⟨#[]⟩,bi none 0 0]:=r▸ah.new W _ _;rw[<- r];clear r Z;have R:=qh (show e.kind f b at_=(0,5) by rw[HK.o,HF.o]);clear s B2 B0 B1;go_wp2_with (fail);go_ret2;exact⟨by rw[R.o];rfl,m⟩
 .obtain⟨⟨A',c',rfl,wK,bc⟩,a8,am,aR⟩:=hd;have N:=qh (bm wK (bm am (MV.o d ap)));clear wK am aR ap;have Z:(Instr.lookup 160 (.map (some x)) (bh e.nm) true).run Tryz.prog W = .ok (.tuple #[.agg #[bh d.nm,bi A' d.loops.length c'],bk true]) W:=by
   have h:=ao.o.look Tryz.underlying160 (oM W) WI.o;rw[E] at h;exact h
  have HF:=qh hf;clear hf E;go_upto_region 15 with (fail);obtain⟨W2,r⟩:=aC (W.alloc (bj #[bh d.nm,bi A' d.loops.length c'] 184 (0,0)));have s:IY W W2:=r▸(Below.refl _ W).alloc (bn _) _;have m:=I.trans (s.mono I.size);have B2:ah W2 W.heap.size 184 #[bh d.nm,bi A' d.loops.length c']:=r▸ah.new W _ _;rw[<- r];clear r Z;obtain⟨q,hq⟩:=af (eX d.loops at_);have HQ:=qh hq;have aD:=qh (show Calls Tryz.prog 245 #[bi A' d.loops.length c',bi A at_.length c] W2 λ e t=>e = bl (bk q)/\IY W2 t by
   have h:=yJ d.loops at_ A' c' A c B W2 N.o.2.1 p.o.1 (N.o.1.below (m.mono p.o.2.2.2)) (p.o.2.1.below (m.mono p.o.2.2.2)) p.o.2.2.1 (bo p.o.2.2.2 m.size);rw[hq] at h;exact h)
  have B0:=B0.below s B0.lt;have B1:=B1.below s B1.lt;clear hq s gG fZ fV gI gJ gK gQ fM Y;obtain⟨gG,fZ,fV,gI,gJ,gK,gQ,fM⟩:=ah.c8 B1;obtain⟨uf,ug⟩:=ah.c2 B2;go_wp2_with fail;refine aD.o.mono ?_;rintro T W9 ⟨rfl,eP⟩;have S:=m.trans (eP.mono m.size);have B0:=B0.below eP B0.lt;have B1:=B1.below eP B1.lt;have B2:=B2.below eP B2.lt;clear eP uf ug gG fZ fV gI gJ gK gQ fM;cases q
  .have R:=qh (show e.kind f b at_=(0,5) by rw[HK.o,HF.o,HQ.o];rfl);clear B0 B1 B2;go_wp2_with fail;go_ret2;exact⟨by rw[R.o];rfl,S⟩
  .have M:=S.mono p.o.2.2.2;have h1:0<e.ar.length:=by have:=HP.o.2;omega
   obtain⟨ad,ci,rfl,l,X,G⟩:=aZ.arg (HR.o.1.below M) (λ i h=>(HR.o.2 i h).keep M) h1;obtain⟨a,P⟩:=af (e.ar[0]);have ak:a∈e.ar:=by rw[<- P];exact bw h1
   have Q:e.ar = [a]:=by have h:=NP e.ar HP.o.2 h1;rwa [P] at h
   have R:=qh (show e.kind f b at_=if (a.kind f b (d.loops ++ [d.nm])).2≠0 then (0,(a.kind f b (d.loops ++ [d.nm])).2) else vH e.op (a.kind f b (d.loops ++ [d.nm])).1 by
    rw[HK.o,HF.o,HQ.o];show qV f b e.ar (d.loops ++ [d.nm]) e.op=_;rw[Q,qV])
   obtain⟨g,E⟩:=af (a.kind f b (d.loops ++ [d.nm]));obtain⟨g1,g2⟩:=g;have Qn:=qh E;rw[P] at X;have aW:=X;obtain⟨a1,a7,ba,bd,aw,ax,ay⟩:=X;rename_i A3 c3 A4 c4 a6;have k:∀ j u,(ai a A3 c3 A4 c4)[j]?=some u->W9.cell? (ad.add j)=some u:=λ j u L=>by have h:=G j u L;rwa [Nat.zero_mul,kH] at h
   obtain⟨kC,kT,nZ,tV,tX,tY,tZ,wJ⟩:=Cm k;clear aw ax ay G P E Q;clear h1 k HR;have nP:=qh aW;obtain⟨aL,Y⟩:=ah.c2 B0;have fM:W9.cell? ⟨w.heap.size+1,7,none⟩=some (bi (some ad) 1 K):=by have h:=B1.cell 7;rwa [show ((BC e A1 c1 (some ad) e.ar.length K):Array Value)[7]?=some (bi (some ad) 1 K) from by rw[HP.o.2];rfl] at h
   obtain⟨uf,ug⟩:=ah.c2 B2;have O:=qh (show ∀ w',IY W9 w'->w'.cell? ⟨w.heap.size,0,none⟩=some (.map (some J))/\w'.cell? ⟨w.heap.size,1,none⟩=some (.map (some x))/\w'.cell? ⟨w.heap.size+1,7,none⟩=some (bi (some ad) 1 K)/\w'.cell? ⟨W.heap.size,0,none⟩=some (bh d.nm)/\w'.cell? ⟨W.heap.size,1,none⟩=some (bi A' d.loops.length c')/\w'.cell? ad=some (be bf a.k)/\w'.cell? ⟨ad.block,ad.off+1,none⟩=some (be bf a.op)/\w'.cell? ⟨ad.block,ad.off+2,none⟩=some (bh a.nm)/\w'.cell? ⟨ad.block,ad.off+3,none⟩=some (be bf a.v.k)/\w'.cell? ⟨ad.block,ad.off+4,none⟩=some (be bf a.v.n)/\w'.cell? ⟨ad.block,ad.off+5,none⟩=some (bh a.v.s)/\w'.cell? ⟨ad.block,ad.off+6,none⟩=some (bi A3 a.v.l.length c3)/\w'.cell? ⟨ad.block,ad.off+7,none⟩=some (bi A4 a.ar.length c4)/\IY W9 w' from λ w' l=>⟨Below.cell_of l aL,Below.cell_of l Y,Below.cell_of l fM,Below.cell_of l uf,Below.cell_of l ug,Below.cell_of l kC,Below.cell_of l kT,Below.cell_of l nZ,Below.cell_of l tV,Below.cell_of l tX,Below.cell_of l tY,Below.cell_of l tZ,Below.cell_of l wJ,l⟩);have z:IY W9 W9:=Below.refl _ _;have NQ:∀ o,IY W9 (W9.alloc o).drew:=λ o=>(z.alloc (bn _) _).drew;have F:B<=W9.heap.size:=bo p.o.2.2.2 S.size;have aM:=qh (HI.o a ak);have K1:=qh (show ∀ w',IY W9 w'->Calls Tryz.prog 38 #[bi A' d.loops.length c'] w' λ T t=>∃ v,T = bl v/\t.ownsRow W9.heap.size 9 1 v d.loops.length (jq d.loops)/\IY W9 t/\IY w' t from λ w' l =>
    (cloneS d.loops A' c' B w' (N.o.1.below (M.trans (l.mono F))) (by have:=N.o.2.2;omega)).mono λ _ _ ⟨v,he,ho,D⟩=>⟨v,he,own_base ho l.size,l.trans (D.mono l.size),D⟩)
   have K3:=qh (show ∀ w' g C,IY W9 w'->w'.ownsRow W9.heap.size 9 1 (bi (some ⟨g,0,none⟩) (d.loops.length+1) C) (d.loops.length+1) (jq d.loops ++ [bh d.nm])->Calls Tryz.prog 218 #[.agg #[.map (some J),.map (some x)],.agg (BC a A3 c3 A4 a.ar.length c4),bi (some ⟨g,0,none⟩) (d.loops.length+1:Nat) C] w' λ T t=>T = bl (.tuple #[be bf g1,be bf g2])/\IY W9 t from by
    intro w' g C l ho;have a0:=M.trans (l.mono F);have ar:=S.trans (l.mono S.size);have y:(d.loops ++ [d.nm]).length=d.loops.length+1:=by simp
    have h:=aM.o w'.heap.size (d.loops ++ [d.nm]) (some ⟨g,0,none⟩) C _ w' ((nP.o.keep (l.mono F)).up (bo F l.size)) ((SV.o.keep ar p.o.2.2.2).up (bo F l.size)) (by rw[y];have:=N.o.2.2;unfold maxLen;omega) (by rw[bV,Ci,y];exact Reads.ig ho) (by rw[y];exact SY ho) (bn _);rw[y,Qn.o] at h;exact h.mono λ _ _ ⟨he,D⟩=>⟨he,l.trans (D.mono l.size)⟩)
   clear ak;go_upto_region 17 with (fail);go_region_held3 (λ w'=>w'.cell? ⟨w.heap.size,0,none⟩=some (.map (some J))/\w'.cell? ⟨w.heap.size,1,none⟩=some (.map (some x))/\w'.cell? ⟨w.heap.size+1,7,none⟩=some (bi (some ad) 1 K)/\w'.cell? ⟨W.heap.size,0,none⟩=some (bh d.nm)/\w'.cell? ⟨W.heap.size,1,none⟩=some (bi A' d.loops.length c')/\w'.cell? ad=some (be bf a.k)/\w'.cell? ⟨ad.block,ad.off+1,none⟩=some (be bf a.op)/\w'.cell? ⟨ad.block,ad.off+2,none⟩=some (bh a.nm)/\w'.cell? ⟨ad.block,ad.off+3,none⟩=some (be bf a.v.k)/\w'.cell? ⟨ad.block,ad.off+4,none⟩=some (be bf a.v.n)/\w'.cell? ⟨ad.block,ad.off+5,none⟩=some (bh a.v.s)/\w'.cell? ⟨ad.block,ad.off+6,none⟩=some (bi A3 a.v.l.length c3)/\w'.cell? ⟨ad.block,ad.off+7,none⟩=some (bi A4 a.ar.length c4)/\IY W9 w')
    (first | exact O.o _ z | exact O.o _ z.drew | exact O.o _ n | exact O.o _ aa | exact O.o _ U | exact O.o _ (n.alloc (bo z.size n.size) _) | exact O.o _ (NQ _))
    (first
     | (go_at_call 38;(with_reducible refine (K1.o _ z.drew).mono ?_);rintro e1 w1 ⟨v,rfl,H,n,ry⟩)
     | (go_at_call 38;(with_reducible refine (K1.o _ (NQ _)).mono ?_);rintro e1 w1 ⟨v,rfl,H,n,ry⟩;have av:=Below.cell_of (a:=⟨W9.heap.size,0,none⟩) (v:=bh d.nm) ry (by simp[go_sem]))
     | (refine step_append_lies _ rfl _ _ 22 rfl W9.heap.size 9 i0 (.string ByteArray.empty) 1 16 Tryz.underlying22 ab an aq ac rfl (by decide) v d.loops.length (jq d.loops) rfl (H.alloc _) ⟨w1.heap.size,0,none⟩ 1 1 [.string d.nm] rfl rfl (by intro j u hj;cases j <;> simp_all[go_sem]) (by intro u L;simp only[br] at L;subst L;rfl) (by decide) (by have:=N.o.2.2;unfold maxLen;omega) (by have:=N.o.2.2;omega) (by have:=n.size;first | omega | (simp;omega)) _ rfl ?_;intro g C w2 al V _ _;have aa:=(n.alloc (bo z.size n.size) _).grown V (by have:=n.size;simp;omega) (λ g E=>(H.lt g E).1))
     | (refine step_append_lies _ rfl _ _ 22 rfl W9.heap.size 9 i0 (.string ByteArray.empty) 1 16 Tryz.underlying22 ab an aq ac rfl (by decide) v d.loops.length (jq d.loops) rfl H ⟨W9.heap.size,0,none⟩ 1 1 [.string d.nm] rfl rfl (by intro j u hj;cases j with | zero=>(have L:u = .string d.nm:=by simpa using hj.symm);subst L;exact av | succ j=>simp at hj) (by intro u L;simp only[br] at L;subst L;rfl) (by decide) (by have:=N.o.2.2;unfold maxLen;omega) (by have:=N.o.2.2;omega) (by have:=n.size;first | omega | (simp;omega)) _ rfl ?_;intro g C w2 al V _ _;have aa:=n.grown V n.size (λ g E=>(H.lt g E).1))
     | (go_at_call 218;(with_reducible refine (K3.o _ _ _ aa al).mono ?_);rintro e3 w3 ⟨rfl,U⟩))
   all_goals
    have yB:=S.trans (U.mono S.size);by_cases h0:g2=0;rotate_left
    .have bg:(g2 != 0)=true:=by simpa using h0
     have Aj:=qh (show e.kind f b at_=(0,g2) by rw[R.o,Qn.o,if_pos h0]);clear h0 O HK R;go_wp2_with fail;go_ret2;exact⟨by rw[Aj.o];rfl,yB⟩
    .subst h0;have Aj:=qh (show e.kind f b at_=vH e.op g1 by rw[R.o,Qn.o];exact if_neg (λ h=>h rfl));have a2:w3.cell? ⟨w.heap.size+1,1,none⟩=some (be bf e.op):=Below.cell_of U (B1.cell 1);clear O HK R;go_wp2_with fail;refine (Ky e.op g1 w3 HP.o.1.1 HP.o.1.2).mono ?_;rintro T w4 ⟨rfl,rfl⟩;go_wp2_with fail;go_ret2;exact⟨by rw[Aj.o];try rfl,yB⟩
def Kz (cells:List aG) (loops:List aQ) (e:Ex):Prop:=∀ (AC AN:Option Addr) (cc cn B:Nat) (at_:List ByteArray) (A:Option Addr) (c:Nat) (cs:List Value) (w:World),aZ w B e cs->bU w B AC cells->dX w B AN loops->at_.length<=maxLen->bV w B A at_->at_.length<=c->B<=w.heap.size ->
  IE 43 #[.agg #[bi AC cells.length cc,bi AN loops.length cn],.agg cs.toArray,bi A at_.length c] w (.tuple #[be bf (e.kind cells loops at_).1,be bf (e.kind cells loops at_).2])
theorem abz (e:Ex) (b:List aG) (d:List aQ) (C:e.k=4) (y z:Option Addr) (L E B:Nat) (at_:List ByteArray) (A:Option Addr) (c:Nat) (cs:List Value) (w:World) (hP:uh e) (hI:∀ a∈e.ar,Kz b d a) (ap:∀ a∈e.ar,okR (a.kind b d at_)) (hx:aZ w B e cs) (hC:bU w B y b) (hN:dX w B z d) (ha:at_.length<=maxLen) (T:bV w B A at_) (hc:at_.length<=c) (hB:B<=w.heap.size) :
  IE 43 #[.agg #[bi y b.length L,bi z d.length E],.agg cs.toArray,bi A at_.length c] w (.tuple #[be bf (e.kind b d at_).1,be bf (e.kind b d at_).2]):=by
 obtain⟨hn,hs,hl,Qh,hx,Q,hi⟩:=hx;rename_i A1 c1 A2 c2 cs;have HK:=qh (show e.kind b d at_=if (bW b d e.ar at_ []).1≠0 then (0,(bW b d e.ar at_ []).1) else vJ e.op (bW b d e.ar at_ []).2 by rw[jX,if_neg (by omega),if_neg (by omega),if_neg (by omega),if_neg (by omega)]);have a6:(e.k == 1)=false:=by rw[C];rfl
 have bb:(e.k == 2)=false:=by rw[C];rfl
 have a5:(e.k == 3)=false:=by rw[C];rfl
 have a9:(e.k == 5)=false:=by rw[C];rfl
 have MW:=qh (bm hC hN);have l:=qh (bm ha (bm T (bm hc hB)));have HR:=qh (bm Q hi);have HI:=qh hI;have HA:=qh Qh;have O:=qh (bm (hP.op4 C) (hP.a4 C));have aw:=qh (λ F=>Cf (ks:=[]) ap (λ _ h=>by cases h) F);obtain⟨i0,aq,aR,a2,ar⟩:=info_parts EF;unfold maxLen at Qh;clear hx Q hi hC hN T hB C hI hP ap;show Calls Tryz.prog 43 #[.agg #[bi y b.length L,bi z d.length E],.agg (BC e A1 c1 A2 e.ar.length c2),bi A at_.length c] w _;go_enter Tryz.func43,Tryz.ntmps43;go_upto_region 1 with (fail);obtain⟨W,P⟩:=aC (((w.alloc (bj #[bi y b.length L,bi z d.length E] 121 (0,0))).alloc (.cells (BC e A1 c1 A2 e.ar.length c2) 67 (0,0))));have am:IY w W:=by rw[P];exact (((Below.refl _ w).alloc (bn _) _).alloc (by simp) _)
 have B0:ah W (w.heap.size) 121 #[bi y b.length L,bi z d.length E]:=by
  rw[P];have:=ah.new w 121 #[bi y b.length L,bi z d.length E];have:=this.alloc (.cells (BC e A1 c1 A2 e.ar.length c2) 67 (0,0));exact this
 have B1:ah W (w.heap.size+1) 67 (BC e A1 c1 A2 e.ar.length c2):=by
  rw[P];have:=ah.new (w.alloc (bj #[bi y b.length L,bi z d.length E] 121 (0,0))) 67 (BC e A1 c1 A2 e.ar.length c2)
  rwa [bp] at this
 have aL:W.heap.size=w.heap.size+2:=by rw[P];simp
 rw[<- P];obtain⟨aM,a1⟩:=ah.c2 B0;obtain⟨gG,fZ,fV,gI,gJ,gK,gQ,fM⟩:=ah.c8 B1;have m:IY W W:=Below.refl _ _;clear P aL;go_wp2_with fail;go_loopw [29,8] (λ i kd wr=>∃ (k:Nat) (v:Value) (ks:List Int),k<=e.ar.length/\i = be bf k/\kd=v/\Hid (wr.ownsRow W.heap.size 3 1 v k (bI bf ks))/\Hid (bW b d e.ar at_ []=bW b d (e.ar.drop k) at_ ks)/\IY W wr) (λ i _ _=>e.ar.length - (intOf i).toNat)
 case atStart=>exact⟨0,_,[],bt _,rfl,rfl,qh (bv _ _ _ _),qh (by rfl),m⟩
 case round =>
  obtain⟨k,v,ks,C,rfl,rfl,HO,HD,m⟩:=hrel;obtain⟨ae,A5,c5,rfl,-⟩:=rZ HO.o;have a0:=qh ae;clear ae;have iT:=m.size;have n:IY w wr:=am.trans (m.mono am.size);have ao:Below B w wr:=n.mono l.o.2.2.2;have C0:=B0.below m B0.lt;have C1:=B1.below m B1.lt;clear aM a1 gG fZ fV gI gJ gK gQ fM;obtain⟨Fq,Fv⟩:=ah.c2 C0;obtain⟨kV,U,ac,ak,R,S,al,ab⟩:=ah.c8 C1;by_cases hlt:k<e.ar.length
  .obtain⟨ad,ci,rfl,hb,H,f⟩:=aZ.arg (HR.o.1.below ao) (λ i h=>(HR.o.2 i h).keep ao) hlt;obtain⟨a,s⟩:=af (e.ar[k]);have X:a∈e.ar:=by rw[<- s];exact bw hlt
   obtain⟨g,K⟩:=af (a.kind b d at_);obtain⟨g1,Z⟩:=g;have Qn:=qh K;have lq:=qh (show bW b d (e.ar.drop k) at_ ks=if Z≠0 then (Z,ks) else bW b d (e.ar.drop (k+1)) at_ (ks ++ [g1]) by
    rw[DJ _ _ _ _ _ _ hlt,s,K])
   have aW:=qh hlt;have an:=qh (λ w' h1 h2 h3 h4 h5=>HI.o a X y z L E B at_ A c ci w' h1 h2 h3 l.o.1 h4 l.o.2.2.1 h5);rw[s] at H;have nP:=qh H;obtain⟨a4,a8,ba,bc,ax,ay,aD⟩:=H;rename_i A3 c3 A4 c4 a7;obtain⟨kC,kT,nZ,tV,tX,tY,tZ,wJ⟩:=Cm f;clear ax ay aD f s X K;go_upto_region 7 with (fail);obtain⟨W3,p⟩:=aC (wr.alloc (.cells (BC a A3 c3 A4 a.ar.length c4) 67 (0,0)));have x:IY wr W3:=p▸(Below.refl _ wr).alloc (bn _) _;have B3:ah W3 wr.heap.size 67 (BC a A3 c3 A4 a.ar.length c4):=p▸ah.new wr _ _;have Us:=qh (show W3.ownsRow W.heap.size 3 1 _ k (bI bf ks) from p▸HO.o.alloc _);rw[<- p];clear p kC kT nZ tV tX tY tZ wJ Fq Fv kV U ac ak R S al ab;have D0:=C0.below x C0.lt;obtain⟨Fq,Fv⟩:=ah.c2 D0;obtain⟨Ir,Fz,Iu,Jm,Jn,Jo,Jp,Jq⟩:=ah.c8 B3;have N:IY w W3:=n.trans (x.mono n.size);have aa:IY W W3:=m.trans (x.mono iT);go_wp2_with fail;refine (an.o W3 (nP.o.keep (x.mono (bo l.o.2.2.2 n.size))) (MW.o.1.keep (N.mono l.o.2.2.2)) (MW.o.2.keep (N.mono l.o.2.2.2)) (l.o.2.1.below (N.mono l.o.2.2.2)) (bo l.o.2.2.2 N.size)).mono ?_;rw[Qn.o];rintro en w4 ⟨rfl,G⟩;have Uz:=N.trans (G.mono N.size);have q:IY W w4:=aa.trans (G.mono aa.size);have Af:=qh (own_below Us.o G);clear Fq Fv Ir Fz Iu Jm Jn Jo Jp Jq D0 B3 an;by_cases F:Z=0;rotate_left
   .have bg:(Z != 0)=true:=by simpa using F
    have jA:=qh (show e.kind b d at_=(0,Z) by rw[HK.o,HD.o,lq.o,if_pos F,if_pos F]);clear F;go_wp2_with fail;go_ret2;exact⟨by rw[jA.o];rfl,Uz⟩
   .subst F;have av:=qh (show bW b d e.ar at_ []=bW b d (e.ar.drop (k+1)) at_ (ks ++ [g1]) by rw[HD.o,lq.o,if_neg (by decide)]);have D:∀ g,bE (.slice A5 ks.length c5)=some g->W.heap.size<=g:=λ g K=>(Af.o.lt g K).1;have IJ:=qh D;clear D;go_wp2_with (at_builtin;refine wpList_append_own _ rfl _ _ 54 rfl W.heap.size 3 i0 (.int .i64 0) 1 8 Tryz.underlying54 aq aR a2 ar rfl (by decide) _ _ _ rfl (Af.o.alloc _) ⟨w4.heap.size,0,none⟩ 1 1 [.int .i64 g1] rfl rfl ?c1 ?c2 ?c3 ?c4 ?c5 ?_)
    case c1=>intro j u hj;cases j <;> simp_all[go_sem]
    case c2=>intro u hu;simp only[br] at hu;subst hu;rfl
    case c3=>exact bo aW.o HA.o
    case c4=>(have h:=bo (bK aW.o) (bo O.o.2.2 (SX e.op));omega)
    case c5=>(have h:=q.size;simp;omega)
    intro v2 w5 o V _;have XE:IY W w5:=(q.alloc (by have:=q.size;omega) _).grown V (by have:=q.size;simp;omega) (λ g K=>by have:=IJ.o g K;omega);have NM:=qh (show w5.ownsRow W.heap.size 3 1 v2 (k+1) (bI bf (ks ++ [g1])) by rw[xR];exact o);clear o V;go_wp2;go_roundw
    case rel=>exact⟨k+1,v2,ks ++ [g1],aW.o,by go_num,rfl,NM,av,XE⟩
    case measure =>
     have:=aW.o;simp[intOf];omega
  .have a3:k=e.ar.length:=by omega
   have t:bW b d e.ar at_ []=(0,ks):=by rw[HD.o,bx (by omega),bW]
   have I:=aw.o (by rw[t]);rw[t] at I;have aE:=qh t;have J:ks.length=e.ar.length:=by have:=a0.o;omega
   obtain⟨r,Q⟩:=af (qo e.op ks);obtain⟨r1,r2⟩:=r;have jA:=qh (show e.kind b d at_=if r2 then (r1,0) else (0,8) by
    rw[HK.o,aE.o,if_neg (λ h=>h rfl),aen _ _ O.o.1.1 O.o.1.2 (by show _<=ks.length/\ks.length<=_;rw[J];exact O.o.2) I.1,Q])
   have M:=qh (II e.op ks A5 c5 wr.heap.size wr O.o.1.1 O.o.1.2 (by rw[J];exact HA.o) (og HO.o).1 (bn _));rw[Q] at M;clear a3 J I t Q;go_wp2_with fail;refine M.o.mono ?_;rintro en w9 ⟨rfl,eP⟩;have Y:=n.trans (eP.mono n.size);clear M C0 C1 Fq Fv kV U ac ak R S al ab;cases r2
   .have Aj:=qh (show e.kind b d at_=(0,8) by rw[jA.o];rfl);go_wp2_with fail;go_ret2;exact⟨by rw[Aj.o];try rfl,Y⟩
   .have Aj:=qh (show e.kind b d at_=(r1,0) by rw[jA.o];rfl);go_wp2_with fail;go_ret2;exact⟨by rw[Aj.o];try rfl,Y⟩
def um (l:List aG) (nm:ByteArray) (at_:List ByteArray):Int × Int:=match l with
 | []=>(0,5)
 | c :: r=>if c.nm=nm/\eX c.loops at_=true then (c.kind,0) else um r nm at_
theorem Jr (nm:ByteArray) (at_:List ByteArray):∀ l:List aG,wV l nm at_=um l nm at_
 | []=>rfl
 | c :: r=>by
  rw[um,<- Jr nm at_ r];unfold wV;rw[List.find?_cons];by_cases h1:c.nm=nm <;> cases h2:eX c.loops at_ <;> simp[h1,h2]
theorem NR (nm:ByteArray) (at_:List ByteArray) (l:List aG) (k:Nat) (h:k<l.length):um (l.drop k) nm at_=if l[k].nm=nm/\eX l[k].loops at_=true then (l[k].kind,0) else um (l.drop (k+1)) nm at_:=by
 rw[List.drop_eq_getElem_cons h,um]
theorem abA (e:Ex) (a:List aG) (b:List aQ) (v:e.k=2) (p t:Option Addr) (D x B:Nat) (at_:List ByteArray) (A:Option Addr) (c:Nat) (cs:List Value) (w:World) (hP:uh e) (hx:aZ w B e cs) (hC:bU w B p a) (hN:dX w B t b) (ha:at_.length<=maxLen) (F:bV w B A at_) (hc:at_.length<=c) (hB:B<=w.heap.size) :
  IE 43 #[.agg #[bi p a.length D,bi t b.length x],.agg cs.toArray,bi A at_.length c] w (.tuple #[be bf (e.kind a b at_).1,be bf (e.kind a b at_).2]):=by
 obtain⟨hn,o,hl,Qh,hx,hr,hi⟩:=hx;rename_i N G L M cs;have HK:=qh (show e.kind a b at_=um a e.nm at_ by rw[jX,if_neg (by omega),if_pos v,Jr]);have am:(e.k == 1)=false:=by rw[v];rfl
 have ap:(e.k == 2)=true:=by rw[v];rfl
 have al:(e.k == 3)=false:=by rw[v];rfl
 have ao:(e.k == 5)=false:=by rw[v];rfl
 have g:=qh (bm ha (bm F (bm hc hB)));have R:=qh hC;have Y:=hC.1;unfold maxLen at Y;have h0:e.ar.length=0:=by rw[hP.a0 (by omega)];rfl
 clear hx hr hi hC hN F hB v hP;show Calls Tryz.prog 43 #[.agg #[bi p a.length D,bi t b.length x],.agg (BC e N G L e.ar.length M),bi A at_.length c] w _;rw[h0];go_enter Tryz.func43,Tryz.ntmps43;go_upto_region 1 with (fail);obtain⟨W,C⟩:=aC (((w.alloc (bj #[bi p a.length D,bi t b.length x] 121 (0,0))).alloc (bj #[be bf e.k,be bf e.op,bh e.nm,be bf e.v.k,be bf e.v.n,bh e.v.s,bi N e.v.l.length G,bi L 0 M] 67 (0,0))));have J:IY w W:=by rw[C];exact (((Below.refl _ w).alloc (bn _) _).alloc (by simp) _)
 have B0:ah W (w.heap.size) 121 #[bi p a.length D,bi t b.length x]:=by
  rw[C];have:=ah.new w 121 #[bi p a.length D,bi t b.length x];have:=this.alloc (bj #[be bf e.k,be bf e.op,bh e.nm,be bf e.v.k,be bf e.v.n,bh e.v.s,bi N e.v.l.length G,bi L 0 M] 67 (0,0));exact this
 have B1:ah W (w.heap.size+1) 67 #[be bf e.k,be bf e.op,bh e.nm,be bf e.v.k,be bf e.v.n,bh e.v.s,bi N e.v.l.length G,bi L 0 M]:=by
  rw[C];have:=ah.new (w.alloc (bj #[bi p a.length D,bi t b.length x] 121 (0,0))) 67 #[be bf e.k,be bf e.op,bh e.nm,be bf e.v.k,be bf e.v.n,bh e.v.s,bi N e.v.l.length G,bi L 0 M]
  rwa [bp] at this
 have U:W.heap.size=w.heap.size+2:=by rw[C];simp
 rw[<- C];clear C U h0;obtain⟨ED,EE⟩:=ah.c2 B0;obtain⟨gG,fZ,S,gI,gJ,gK,gQ,fM⟩:=ah.c8 B1;go_wp2_with fail
 go_loop [29] (λ i=>i = be bf 0) (λ _=>0)
 case atStart=>exact rfl
 case round =>
  subst hrel;go_wp2_with fail;have j:IY W W:=Below.refl _ _;have an:=qh B0;have E:=qh B1;clear B0 B1 ED EE gG fZ S gI gJ gK gQ fM;go_loopw [60] (λ i wr=>∃ k:Nat,k<=a.length/\i = be bf k/\Hid (e.kind a b at_=um (a.drop k) e.nm at_)/\IY W wr) (λ i _=>a.length - (intOf i).toNat)
  case atStart=>exact⟨0,bt _,rfl,qh HK.o,j⟩
  case round =>
   obtain⟨k,v,rfl,HD,j⟩:=hrel;have iT:=j.size;have l:IY w wr:=J.trans (j.mono J.size);have ae:Below B w wr:=l.mono g.o.2.2.2;have P:=E.o.below j E.o.lt;by_cases hlt:k<a.length
   .obtain⟨ad,ci,rfl,hb,I,f⟩:=(R.o.keep ae).at_ hlt;obtain⟨d,V⟩:=af (a[k]);have lq:=qh (show e.kind a b at_=if d.nm=e.nm/\eX d.loops at_=true then (d.kind,0) else um (a.drop (k+1)) e.nm at_ by
     rw[HD.o,NR _ _ _ _ hlt,V])
    rw[V] at I;have Q:=qh hlt;obtain⟨⟨y,z,rfl,K,ac⟩,aa,H,ab⟩:=I;have nR:=qh (bm K H);obtain⟨kC,kT,nZ⟩:=IC f;clear f V K ac aa H ab;go_upto_region 19 with (fail);obtain⟨W3,m⟩:=aC (wr.alloc (bj #[bh d.nm,be bf d.kind,bi y d.loops.length z] 51 (0,0)));have n:IY wr W3:=m▸(Below.refl _ wr).alloc (bn _) _;have B3:ah W3 wr.heap.size 51 #[bh d.nm,be bf d.kind,bi y d.loops.length z]:=m▸ah.new wr _ _;rw[<- m];have Z:=P.below n P.lt;clear m kC kT nZ P;have s:IY W W3:=j.trans (n.mono iT);have O:=l.trans (n.mono l.size);have Ir:W3.cell? ⟨wr.heap.size,0,none⟩=some (bh d.nm):=B3.cell 0;have Fz:W3.cell? ⟨wr.heap.size,1,none⟩=some (be bf d.kind):=B3.cell 1;have Iu:W3.cell? ⟨wr.heap.size,2,none⟩=some (bi y d.loops.length z):=B3.cell 2;have S:W3.cell? ⟨w.heap.size+1,2,none⟩=some (bh e.nm):=Z.cell 2;by_cases o:d.nm=e.nm
    .have b0:(d.nm.toList == e.nm.toList)=true:=jb o;obtain⟨q,hq⟩:=af (eX d.loops at_);have HQ:=qh (bm o hq);have T:=qh (show Calls Tryz.prog 89 #[bi y d.loops.length z,bi A at_.length c] W3 λ e ak=>e = bl (bk q)/\IY W3 ak by
      have h:=Fp d.loops at_ y z A c B W3 nR.o.2 g.o.1 (nR.o.1.below (n.mono (bo g.o.2.2.2 l.size))) (g.o.2.1.below (O.mono g.o.2.2.2)) g.o.2.2.1 (bo g.o.2.2.2 O.size);rw[hq] at h;exact h)
     clear o hq;go_wp2_with fail;refine T.o.mono ?_;rintro en w4 ⟨rfl,r⟩;have X:=s.trans (r.mono s.size);have Uz:=O.trans (r.mono O.size);have B4:=B3.below r B3.lt;clear B3 Z Ir Fz Iu S;have Fz:w4.cell? ⟨wr.heap.size,1,none⟩=some (be bf d.kind):=B4.cell 1;clear B4;cases q
     .have u:=qh (lq.o.trans (if_neg (λ h=>by rw[HQ.o.2] at h;exact absurd h.2 (by decide))));go_wp2_with fail;go_roundw
      case rel=>exact⟨k+1,Q.o,by go_num,u,X⟩
      case measure =>
       have:=Q.o;simp[intOf];omega
     .have u:=qh (lq.o.trans (if_pos HQ.o));go_wp2_with fail;go_ret2;exact⟨by rw[u.o];try rfl,Uz⟩
    .have u:=qh (lq.o.trans (if_neg (λ h=>o h.1)));have b0:(d.nm.toList == e.nm.toList)=false:=dE o;clear o B3 Z;go_wp2_with fail;go_roundw
     case rel=>exact⟨k+1,Q.o,by go_num,u,s⟩
     case measure =>
      have:=Q.o;simp[intOf];omega
   .have u:=qh (show e.kind a b at_=(0,5) by rw[HD.o,bx (by omega)];rfl);clear P;go_wp2_with fail;go_ret2;exact⟨by rw[u.o];try rfl,l⟩
theorem abB (e:Ex) (b:List aG) (a:List aQ) (k:e.k=1) (d f:Option Addr) (j g B:Nat) (at_:List ByteArray) (A:Option Addr) (c:Nat) (cs:List Value) (w:World) (t:uh e) (s:aZ w B e cs) (G:bU w B d b) (y:dX w B f a) (L:at_.length<=maxLen) (p:bV w B A at_) (T:at_.length<=c) (z:B<=w.heap.size) :
  IE 43 #[.agg #[bi d b.length j,bi f a.length g],.agg cs.toArray,bi A at_.length c] w (.tuple #[be bf (e.kind b a at_).1,be bf (e.kind b a at_).2]):=by
 obtain⟨S,Z,X,J,s,v,I⟩:=s;rename_i n o l m cs;have C:=qh (show e.kind b a at_=(e.v.k,0) by rw[jX,if_pos k]);have x:(e.k == 1)=true:=by rw[k];rfl
 have D:(e.k == 2)=false:=by rw[k];rfl
 have F:(e.k == 3)=false:=by rw[k];rfl
 have E:(e.k == 5)=false:=by rw[k];rfl
 have u:e.ar.length=0:=by rw[t.a0 (by omega)];rfl
 clear s v I G y p z k t;show Calls Tryz.prog 43 #[.agg #[bi d b.length j,bi f a.length g],.agg (BC e n o l e.ar.length m),bi A at_.length c] w _;rw[u];go_enter Tryz.func43,Tryz.ntmps43;go_upto_region 1 with (fail);obtain⟨W,h⟩:=aC (((w.alloc (bj #[bi d b.length j,bi f a.length g] 121 (0,0))).alloc (bj #[be bf e.k,be bf e.op,bh e.nm,be bf e.v.k,be bf e.v.n,bh e.v.s,bi n e.v.l.length o,bi l 0 m] 67 (0,0))));have q:IY w W:=by rw[h];exact (((Below.refl _ w).alloc (bn _) _).alloc (by simp) _)
 have B0:ah W (w.heap.size) 121 #[bi d b.length j,bi f a.length g]:=by
  rw[h];have:=ah.new w 121 #[bi d b.length j,bi f a.length g];have:=this.alloc (bj #[be bf e.k,be bf e.op,bh e.nm,be bf e.v.k,be bf e.v.n,bh e.v.s,bi n e.v.l.length o,bi l 0 m] 67 (0,0));exact this
 have B1:ah W (w.heap.size+1) 67 #[be bf e.k,be bf e.op,bh e.nm,be bf e.v.k,be bf e.v.n,bh e.v.s,bi n e.v.l.length o,bi l 0 m]:=by
  rw[h];have:=ah.new (w.alloc (bj #[bi d b.length j,bi f a.length g] 121 (0,0))) 67 #[be bf e.k,be bf e.op,bh e.nm,be bf e.v.k,be bf e.v.n,bh e.v.s,bi n e.v.l.length o,bi l 0 m]
  rwa [bp] at this
 have r:W.heap.size=w.heap.size+2:=by rw[h];simp
 rw[<- h];clear h r u;obtain⟨R,M⟩:=ah.c2 B0;obtain⟨P,Y,V,U,O,N,Q,K⟩:=ah.c8 B1;clear B0 B1;go_wp2_with fail
 go_loop [29] (λ i=>i = be bf 0) (λ _=>0)
 case atStart=>exact rfl
 case round =>
  subst hrel;go_wp2_with fail;go_ret2;exact⟨by rw[C.o];rfl,q⟩
theorem abC (e:Ex) (b:List aG) (a:List aQ) (l:e.k=3) (d f:Option Addr) (k h B:Nat) (at_:List ByteArray) (A:Option Addr) (c:Nat) (cs:List Value) (w:World) (y:uh e) (v:aZ w B e cs) (O:bU w B d b) (I:dX w B f a) (F:at_.length<=maxLen) (p:bV w B A at_) (hc:at_.length<=c) (z:B<=w.heap.size) :
  IE 43 #[.agg #[bi d b.length k,bi f a.length h],.agg cs.toArray,bi A at_.length c] w (.tuple #[be bf (e.kind b a at_).1,be bf (e.kind b a at_).2]):=by
 obtain⟨hn,hs,hl,Q,v,G,P⟩:=v;rename_i o r m n cs;have C:=qh (show e.kind b a at_=if bq at_ e.nm then (2,0) else (0,5) by rw[jX,if_neg (by omega),if_neg (by omega),if_pos l]);have H:(e.k == 1)=false:=by rw[l];rfl
 have K:(e.k == 2)=false:=by rw[l];rfl
 have N:(e.k == 3)=true:=by rw[l];rfl
 have L:(e.k == 5)=false:=by rw[l];rfl
 obtain⟨q,x⟩:=af (bq at_ e.nm);have t:=qh x;have M:=qh (λ w' (J:IY w w')=>pq A c B at_ e.nm w' F (p.below (J.mono z)));have D:e.ar.length=0:=by rw[y.a0 (by omega)];rfl
 clear v G P O I p z x l y;show Calls Tryz.prog 43 #[.agg #[bi d b.length k,bi f a.length h],.agg (BC e o r m e.ar.length n),bi A at_.length c] w _;rw[D];go_enter Tryz.func43,Tryz.ntmps43;go_upto_region 1 with (fail);obtain⟨W,j⟩:=aC (((w.alloc (bj #[bi d b.length k,bi f a.length h] 121 (0,0))).alloc (bj #[be bf e.k,be bf e.op,bh e.nm,be bf e.v.k,be bf e.v.n,bh e.v.s,bi o e.v.l.length r,bi m 0 n] 67 (0,0))));have g:IY w W:=by rw[j];exact (((Below.refl _ w).alloc (bn _) _).alloc (by simp) _)
 have B0:ah W (w.heap.size) 121 #[bi d b.length k,bi f a.length h]:=by
  rw[j];have:=ah.new w 121 #[bi d b.length k,bi f a.length h];have:=this.alloc (bj #[be bf e.k,be bf e.op,bh e.nm,be bf e.v.k,be bf e.v.n,bh e.v.s,bi o e.v.l.length r,bi m 0 n] 67 (0,0));exact this
 have B1:ah W (w.heap.size+1) 67 #[be bf e.k,be bf e.op,bh e.nm,be bf e.v.k,be bf e.v.n,bh e.v.s,bi o e.v.l.length r,bi m 0 n]:=by
  rw[j];have:=ah.new (w.alloc (bj #[bi d b.length k,bi f a.length h] 121 (0,0))) 67 #[be bf e.k,be bf e.op,bh e.nm,be bf e.v.k,be bf e.v.n,bh e.v.s,bi o e.v.l.length r,bi m 0 n]
  rwa [bp] at this
 have u:W.heap.size=w.heap.size+2:=by rw[j];simp
 rw[<- j];clear j u D;obtain⟨Z,T⟩:=ah.c2 B0;obtain⟨X,fZ,fV,gI,V,U,Y,S⟩:=ah.c8 B1;clear B0 B1;go_wp2_with fail
 go_loop [29] (λ i=>i = be bf 0) (λ _=>0)
 case atStart=>exact rfl
 case round =>
  subst hrel;go_wp2_with fail;refine (M.o W g).mono ?_;rw[t.o];rintro E R ⟨rfl,rfl⟩;cases q
  .have s:=qh (show e.kind b a at_=(0,5) by rw[C.o,t.o];rfl);go_wp2_with fail;go_ret2;exact⟨by rw[s.o];rfl,g⟩
  .have s:=qh (show e.kind b a at_=(2,0) by rw[C.o,t.o];rfl);go_wp2_with fail;go_ret2;exact⟨by rw[s.o];rfl,g⟩
end Go.Proofs.YtcnagconagpkcaaGreatDoor
