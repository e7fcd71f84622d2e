/- Lemmas. -/
import Derived.Test.YtcnagconagpkcaaGreatDoorZ23
import Derived.Deep.RegionLaw
open Go.Value renaming int->bO, string->bR, slice->bS, pointer->bX, slice->cg
open Go.IntKind renaming i64->bQ
open Go.Ending renaming returned->b0
open Nat renaming le_trans->b4, le_refl->b6, zero_le->b7, lt_of_lt_of_le->cf
open And renaming intro->b5
open List renaming getElem_mem->b9, mem_singleton->ca, length_append->cb, any_eq_true->cc, mem_iff_getElem->ce, mem_map->ck, mem_filter->co, mem_append->cp, mem_cons->cq, getElem_append_left->cr, nil_append->ct, find?_cons->cu, length_eq_one_iff->cv, length_singleton->cw, take_succ_eq_append_getElem->cx, take_length->cz, append_assoc->cA, append_nil->cB, filter_append->cC, map_append->cD, mem_range->cE, mem_cons_self->cF, mem_of_find?_eq_some->cG, find?_some->cH
open Decidable renaming not_not->cj
namespace Go.Proofs.YtcnagconagpkcaaGreatDoor
open Go.RowKit
attribute [local go_sem ↓] Go.wp_at_zero Go.wp_at_succ
attribute [local go_sem ↓] ld_item st_item ld_node st_node ld_ans st_ans ld_part st_part ld_rule st_rule ld_form st_form
set_option maxHeartbeats 4000000
set_option maxRecDepth 100000
theorem grown_of {w w':World} (a:IY w w') (r:Option Nat):w.grownBy w' r:=⟨a.os,a.tape,a.output,a.size,λ i b _=>a.block i b⟩
theorem mX {a w w':World} {row:Option Nat} (h:a.grownBy w row) (k:w.grownBy w' row):a.grownBy w' row:=
 ⟨k.os.trans h.os,k.tape.trans h.tape,k.output.trans h.output,b4 h.size k.size,λ i c b=>(k.block i (cf c h.size) b).trans (h.block i c b)⟩
theorem Ee {w w':World} {B size n m:Nat} {A:Option Addr} {cs:List Value} (h:Reads w B size A n cs) (d:w.grownBy w' (some m)) (a:∀ ad,A=some ad->ad.block≠m):Reads w' B size A n cs:=by
 refine⟨h.1,λ f=>?_⟩;obtain⟨ad,e,c,g⟩:=h.2 f;refine⟨ad,e,c,λ j u b=>d.cell (g j u b) (λ q=>?_)⟩;injection q with q;rw[iZ] at q;exact a ad e q
def BH (w:World) (m:Nat) (K:bu) (n:Nat):Prop:=∃ kv,aP w m kv/\abT kv K/\kv.length<=n
theorem BH.keep {w w':World} {m n:Nat} {K:bu} (h:BH w m K n) (d:IY w w'):BH w' m K n:=by
 obtain⟨c,a,b⟩:=h;exact⟨c,a.below d a.lt,b⟩
theorem BH.up {w:World} {m n:Nat} {K:bu} (h:BH w m K n):BH w m K (n+1):=by
 obtain⟨c,a,b,d⟩:=h;exact⟨c,a,b,by omega⟩
theorem bF.put {w:World} {B0 gb m1 m2 m3:Nat} {x:nM} {f:bC} {N:List aj} {K:bu} (h:bF w B0 gb m1 m2 m3 x f N K) {w':World} {n:Nat} {K':bu} (a:w.grownBy w' (some m3)) (d:BH w' m3 K' n):bF w' B0 gb m1 m2 m3 x f N K':=by
 obtain⟨E,t,b1⟩:=h.by_;obtain⟨u,D,b2⟩:=h.ls;obtain⟨m,v,b3,-⟩:=d;obtain⟨L,H,I,J,s,C,B⟩:=h.ne;have b:Below B0 w w':=nD a h.le (λ k d=>by injection d with d;omega);refine⟨h.blk.grown a (λ e=>B (by injection e)),h.form.keep b,?_,h.cap,⟨E,t.kept a (λ e=>s (by injection e)),b1⟩,⟨u,D.kept a (λ e=>C (by injection e)),b2.keep b⟩,⟨m,v,b3⟩,h.ne,b4 h.le a.size⟩;obtain⟨F,g,cs,r,o⟩:=h.nodes;refine⟨F,g,cs,(Ee r a g).more a.size,λ i G=>?_⟩;obtain⟨p,A,c,e,y,⟨z,q⟩,l,j⟩:=o i G;exact⟨p,A,c,e,y.keep b,⟨(Ee z a j).more a.size,q⟩,l,j⟩
theorem Z7 {a:List (ByteArray × Value)} {K:bu} (h:abT a K) (s:ByteArray) (k:Int):abT ((s,bO bQ k) :: a) ((s,k) :: K):=by
 intro t;rw[fK,cu];by_cases e:s=t
 .simp[e]
 .simp only[e,if_false,decide_false];exact h t
theorem PV {w:World} {B0 gb m1 m2 m3:Nat} {x:nM} {f:bC} {N:List aj} {K:bu} (h:bF w B0 gb m1 m2 m3 x f N K) {F:Nat} (al:w.cell? ⟨F,0,none⟩=some (bX (some ⟨gb,0,none⟩))) (aD:F<w.heap.size) (hN:iQ N) {n j:Nat} (Y:n<N.length) (hj:j<=1000) (ao:BH w m3 K j) (Q:∀ e∈N[n].it.iff,e.parts<=1000000) (am:∀ e∈N[n].it.cnt,e.parts<=1000000) (V:∀ e∈N[n].it.cmp,e.parts<=1000000) (sD:∀ e∈N[n].it.ans.only,e.parts<=1000000) (vZ:∀ r∈N[n].it.ans.ch,r.must.parts<=1000000) (P:N[n].it.k=5->N[n].it.cmp.length=1) (J:Tab w) (ab:Mx w) :
  Calls Tryz.prog 74 #[bX (some ⟨F,0,none⟩),bO bQ n] w λ e w'=>e = b0 (bO bQ (oP N f.lists K f.bD.length n).1)/\bF w' B0 gb m1 m2 m3 x f N (oP N f.lists K f.bD.length n).2/\BH w' m3 (oP N f.lists K f.bD.length n).2 (j+1)/\w.grownBy w' (some m3):=by
 have I:=h.le;have aW:=h.cap;have wB:=h.nodes.1;obtain⟨ad,A1,c1,A2,c2,A3,c3,A4,c4,A5,c5,B1,b1,B2,b2,B3,b3,W,cs,cX,aM,ax,B,BW,g,hit⟩:=h.itm Y;obtain⟨d,hd⟩:=af (N[n].it);rw[hd] at g hit Q V P;have G:aB aZ 8 w B0 A1 d.iff:=by subst g;cases hit;assumption
 have Uc:qG w B0 A2 c2 d.ph:=by subst g;cases hit;assumption
 have E:aB aZ 8 w B0 A5 d.cmp:=by subst g;cases hit;assumption
 have aw:d.nm.size<=maxLen:=by subst g;cases hit;assumption
 have q0:W.cell? ⟨w.heap.size,0,none⟩=some (bO bQ d.k):=by rw[BW.cell 0];subst g;rfl
 have q1:W.cell? ⟨w.heap.size,1,none⟩=some (bR d.nm):=by rw[BW.cell 1];subst g;rfl
 have q2:W.cell? ⟨w.heap.size,2,none⟩=some (bS A1 d.iff.length c1):=by rw[BW.cell 2];subst g;rfl
 have q3:W.cell? ⟨w.heap.size,3,none⟩=some (bS A2 d.ph.length c2):=by rw[BW.cell 3];subst g;rfl
 have aa:W.cell? ⟨w.heap.size,18,none⟩=some (bS A5 d.cmp.length c5):=by rw[BW.cell 18];subst g;rfl
 have U:=qh (show ∀ w',IY W w'->bF w' B0 gb m1 m2 m3 x f N K/\w'.cell? ⟨F,0,none⟩=some (bX (some ⟨gb,0,none⟩))/\F<w'.heap.size/\Tab w'/\Mx w'/\BH w' m3 K j/\w.grownBy w' (some m3)/\IY w w'/\w'.cell? ⟨w.heap.size,0,none⟩=some (bO bQ d.k)/\w'.cell? ⟨w.heap.size,1,none⟩=some (bR d.nm)/\w'.cell? ⟨w.heap.size,3,none⟩=some (bS A2 d.ph.length c2)/\w'.cell? ⟨w.heap.size,18,none⟩=some (bS A5 d.cmp.length c5) from λ w' hb=>by
  have q:=B.trans (hb.mono B.size);exact⟨h.keep q,Below.cell_of q al,cf aD q.size,aA J q,ab.below q,ao.keep q,grown_of q _,q,Below.cell_of hb q0,Below.cell_of hb q1,Below.cell_of hb q3,Below.cell_of hb aa⟩)
 have HP:=qh (b5 am (b5 sD vZ));obtain⟨R,hR⟩:=af (oP N f.lists K f.bD.length n);have k:=qh (show R=if dM (bT N K n []) 7 d.iff≠0 then (dM (bT N K n []) 7 d.iff,K) else
  if rM (bT N K n (dA N K n)) f.bD.length true d.ph≠0 then (rM (bT N K n (dA N K n)) f.bD.length true d.ph,K) else
  if d.k=3 then (Jz N f.lists K n,K) else if d.k=4 then (CZ N K f.bD.length n,K) else
  if d.k=5 then (match d.cmp with
   | []=>(0,K)
   | e :: _=>((bT N K n [] e).2,(d.nm,(bT N K n [] e).1) :: K)) else (0,K) by rw[<- hR];unfold oP;rw[jy Y,hd];rfl)
 rw[hR];obtain⟨b1,b2,b3,s,v,-,-,b8,-,-,-,-⟩:=U.o W (Below.refl _ _);obtain⟨r1,S⟩:=af (dM (bT N K n []) 7 d.iff);have K1:=qh (show Calls Tryz.prog 117 #[bX (some ⟨F,0,none⟩),bS A1 d.iff.length c1,bO bQ n,bS none 0 0] W _ from S▸JQ b1 b2 b3 hN (AM:=none) (cm:=0) (c:=c1) (more:=[]) ⟨by decide,[],Reads.none_,λ i hi=>by cases hi⟩ (.inl ⟨rfl,rfl,rfl⟩) (G.keep (λ _ _ h=>h.keep (B.mono I)) (B.mono I)) (b4 I B.size) Y Q s v);obtain⟨r2,Z⟩:=af (rM (bT N K n (dA N K n)) f.bD.length true d.ph);have K2:=qh (show ∀ w',IY W w'->Calls Tryz.prog 112 #[bX (some ⟨F,0,none⟩),bS A2 d.ph.length c2,bO bQ n,.bool true] w' λ e aR=>e = b0 (bO bQ r2)/\IY w' aR from λ w' hq=>by
  obtain⟨b1,b2,b3,s,v,-,-,b8,-⟩:=U.o w' hq;exact Z▸zQ b1 b2 b3 hN (Uc.keep (b8.mono I)) (b4 I b8.size) (λ _=>⟨n,rfl,Y,rfl⟩) s v)
 rw[S,Z] at k;have an:=qh (b5 P (b5 E V));have a1:=h.ne;clear h G Uc E Q am V sD vZ P J ab hR S Z g hit BW hd ao b1 b3 s v b8;go_enter Tryz.func74,Tryz.ntmps74;go_upto_region 2 with (fail);clear aM ax cX al;by_cases h0:r1=0
 case' pos =>
  have k:=qh (k.o.trans (if_neg (λ h=>h h0)));obtain⟨g0,av⟩:=jk h0
 case' neg =>
  have z:=qh (k.o.trans (if_pos h0));obtain⟨g0,av⟩:=fU h0
 all_goals
  clear h0;go_upto_region 3 with (go_at_call 117;(with_reducible refine K1.o.mono ?_);rintro e1 w1 ⟨rfl,C⟩);obtain⟨b1,b2,b3,s,v,y,b,b8,X,O,H,p⟩:=U.o w1 C;clear q0 q1 q2 q3 aa
 .clear X O H p;go_wp2;go_ret;rw[z.o];exact⟨rfl,b1,y.up,b⟩
 have KP:=qh (K2.o w1 C);clear K1 K2 b1 b3 s v y b b8;by_cases h0:r2=0
 case' pos =>
  have k:=qh (k.o.trans (if_neg (λ h=>h h0)));obtain⟨g2,aE⟩:=jk h0
 case' neg =>
  have z:=qh (k.o.trans (if_pos h0));obtain⟨g2,aE⟩:=fU h0
 all_goals
  clear h0;go_upto_region 6 with (go_at_call 112;(with_reducible refine KP.o.mono ?_);rintro e2 w2 ⟨rfl,o⟩);have o:=C.trans (o.mono C.size);clear b2 X O H p;obtain⟨b1,b2,b3,s,v,y,b,b8,X,O,H,p⟩:=U.o w2 o
 .clear X O H p;go_wp2;go_ret;rw[z.o];exact⟨rfl,b1,y.up,b⟩
 by_cases h3:d.k=3
 .have z:=qh (k.o.trans (if_pos h3));obtain⟨g3,ay⟩:=jk h3;have L:=qh (Wn b1 b2 b3 hN Y HP.o.1 s v);obtain⟨l,hl⟩:=af (Jz N f.lists K n);rw[hl] at L z;clear h3 hl b1 b2 b3 s v y b b8;go_wp2_with (go_at_call 118;(with_reducible refine L.o.mono ?_);rintro e3 D ⟨rfl,t⟩);obtain⟨b1,-,-,-,-,y,b,-⟩:=U.o D (o.trans (t.mono o.size));go_ret;rw[z.o];exact⟨rfl,b1,y.up,b⟩
 have k:=qh (k.o.trans (if_neg h3));obtain⟨g3,ay⟩:=fU h3;by_cases h4:d.k=4
 .have z:=qh (k.o.trans (if_pos h4));obtain⟨g4,ar⟩:=jk h4;have L:=qh (Sr b1 b2 b3 hN Y HP.o.2.1 HP.o.2.2 s v);obtain⟨l,hl⟩:=af (CZ N K f.bD.length n);rw[hl] at L z;clear h3 h4 hl b1 b2 b3 s v y b b8;go_wp2_with (go_at_call 119;(with_reducible refine L.o.mono ?_);rintro e3 D ⟨rfl,t⟩);obtain⟨b1,-,-,-,-,y,b,-⟩:=U.o D (o.trans (t.mono o.size));go_ret;rw[z.o];exact⟨rfl,b1,y.up,b⟩
 have k:=qh (k.o.trans (if_neg h4));obtain⟨g4,ar⟩:=fU h4;by_cases h5:d.k=5
 case neg =>
  have z:=qh (k.o.trans (if_neg h5));obtain⟨g5,WO⟩:=fU h5;clear O H p h3 h4 h5;go_wp2;go_ret;rw[z.o];exact⟨rfl,b1,y.up,b⟩
 have k:=qh (k.o.trans (if_pos h5));obtain⟨g5,WO⟩:=jk h5;obtain⟨a,T⟩:=cv.1 (an.o.1 h5);rw[T] at k;rw[T,show [a].length=1 from rfl] at p;have HC:=an.o.2;rw[T] at HC;have ak:=HC.2 a (ca.2 rfl);obtain⟨ae,ci,rfl,aq,A,m⟩:=aB.at_ (aB.keep (λ _ _ h=>h.keep (b8.mono I)) HC.1 (b8.mono I)) (Nat.lt_succ_self 0)
 replace A:aZ w2 B0 a ci:=A
 replace m:∀ j u,ci[j]?=some u->w2.cell? (ae.add j)=some u:=m
 have zA:=A;obtain⟨-,-,-,-,-,-,-⟩:=zA;rename_i A7 c7 A8 c8 a2;obtain⟨f0,f1,f2,f3,f4,f5,f6,f7⟩:=e8 m;have L:=qh (show Calls Tryz.prog 120 #[.pointer (some ⟨F,0,none⟩),.agg (BC a A7 c7 A8 a.ar.length c8),.int .i64 n,.slice none 0 0] w2 _ from yw b1 b2 b3 hN (more:=[]) ⟨by decide,[],Reads.none_,λ i hi=>by cases hi⟩ (.inl ⟨rfl,rfl,rfl⟩) A (b4 I b8.size) Y ak s v);obtain⟨r,hr⟩:=af (bT N K n [] a);have k:=qh (show R=((bT N K n [] a).2,(d.nm,(bT N K n [] a).1) :: K) from k.o);rw[hr] at L k;clear h3 h4 h5 hr m A aq ak b1 b2 b3 s v y b b8 O H;go_upto_region 15 with (go_at_call 120;(with_reducible refine L.o.mono ?_);rintro e3 D ⟨rfl,t⟩);have t:=o.trans (t.mono o.size);clear f0 f1 f2 f3 f4 f5 f6 f7 p X;obtain⟨b1,b2,b3,s,v,y,b,b8,X,O,H,p⟩:=U.o D t;have g8:D.cell? ⟨gb,8,none⟩=some (.map (some m3)):=b1.blk.cell 8;obtain⟨kv,k1,k2,k3⟩:=y;obtain⟨W9,a0,ap,aL⟩:=(show aP D.drew m3 kv from k1.same rfl).put Tryz.underlying112 (by unfold maxLen;omega) aw (.int .i64 r.1);have M:=qh (b5 b1 (b5 b k2));clear b1 b3 s v b8 b k1 k2 X H p;go_region;go_wp2;go_ret;have hg:=mX (grown_of (Below.refl D.heap.size D).drew (some m3)) aL;have ac:BH W9 m3 ((d.nm,r.1) :: K) (j+1):=⟨_,ap,Z7 M.o.2.2 d.nm r.1,by simp;omega⟩;rw[k.o];exact⟨rfl,M.o.1.put hg ac,ac,mX M.o.2.1 hg⟩
end Go.Proofs.YtcnagconagpkcaaGreatDoor
namespace Go.Proofs.YtcnagconagpkcaaGreatDoor
open Go.RowKit
attribute [local go_sem ↓] Go.wp_at_zero Go.wp_at_succ
set_option maxHeartbeats 4000000
set_option maxRecDepth 100000
theorem Z8 {α:Type}:∀ {cs:List α},cs.length=19->∃ o l n m f k i j g q c b a h p s e d r,cs = [o,l,n,m,f,k,i,j,g,q,c,b,a,h,p,s,e,d,r]
 | [o,l,n,m,f,k,i,j,g,q,c,b,a,h,p,s,e,d,r],_=>⟨o,l,n,m,f,k,i,j,g,q,c,b,a,h,p,s,e,d,r,rfl⟩
theorem ama {α:Type}:∀ {cs:List α},cs.length=23->∃ s p r q j o m n k u e c b l t w i h v g f a d,cs = [s,p,r,q,j,o,m,n,k,u,e,c,b,l,t,w,i,h,v,g,f,a,d]
 | [s,p,r,q,j,o,m,n,k,u,e,c,b,l,t,w,i,h,v,g,f,a,d],_=>⟨s,p,r,q,j,o,m,n,k,u,e,c,b,l,t,w,i,h,v,g,f,a,d,rfl⟩
def BDx (t:TypeId) (ps:Array (Nat × Value)):Sem Value:=Instr.build t ps
def BSx (t:TypeId) (n:Nat) (ps:Array (Nat × Value)):Sem Value:=Instr.buildSlice t n ps
theorem bd_node (ρ:Operand->Value) (g:Option Tmp) (a b c d e:Operand) (ty:TypeId) (pos:String) (f:Array Edge) (guard:Option (Nat × Bool)) :
  execOp ρ { dst:=g,op:=.build 110 #[(0,a),(1,b),(2,c),(3,d),(4,e)],type:=ty,pos,after:=f,guard } = (do pure (.value (<- BDx 110 #[(0,ρ a),(1,ρ b),(2,ρ c),(3,ρ d),(4,ρ e)]))):=by
 show (do pure (Next.value (<- BDx 110 ((#[(0,a),(1,b),(2,c),(3,d),(4,e)]:Array (Nat × Operand)).map λ (i,x)=>(i,ρ x)))))=_;rw[show ((#[(0,a),(1,b),(2,c),(3,d),(4,e)]:Array (Nat × Operand)).map λ (i,x)=>(i,ρ x)) = #[(0,ρ a),(1,ρ b),(2,ρ c),(3,ρ d),(4,ρ e)] by simp]
theorem bs_node (ρ:Operand->Value) (c:Option Tmp) (a:Operand) (ty:TypeId) (pos:String) (b:Array Edge) (guard:Option (Nat × Bool)) :
  execOp ρ { dst:=c,op:=.buildSlice 111 1 #[(0,a)],type:=ty,pos,after:=b,guard } = (do pure (.value (<- BSx 111 1 #[(0,ρ a)]))):=by
 show (do pure (Next.value (<- BSx 111 1 ((#[(0,a)]:Array (Nat × Operand)).map λ (i,x)=>(i,ρ x)))))=_;rw[show ((#[(0,a)]:Array (Nat × Operand)).map λ (i,x)=>(i,ρ x)) = #[(0,ρ a)] by simp]
theorem afO {w:World} {cs:List Value} (g:cs.length=19) (p q r:Int) (A:Option Addr) (n c:Nat):(BDx 110 #[(0,.agg cs.toArray),(1,bO bQ p),(2,bO bQ q),(3,bO bQ r),(4,bS A n c)]).run Tryz.prog w = .ok (.agg (cs ++ [Value.int bQ p,bO bQ q,bO bQ r,bS A n c]).toArray) w:=by
 obtain⟨m,l,x,y,u,v,o,z,t,s,k,d,f,i,e,a,j,b,h,rfl⟩:=Z8 g;kernel_rfl
theorem afP {w:World} {cs:List Value} (i:cs.length=23):(BSx 111 1 #[(0,.agg cs.toArray)]).run Tryz.prog w = .ok (bS (some ⟨w.heap.size,0,none⟩) 1 1) (w.alloc (.cells cs.toArray 110 (0,0))):=by
 obtain⟨p,o,v,x,t,u,q,y,s,r,n,e,g,l,f,b,m,c,k,j,h,a,d,rfl⟩:=ama i;kernel_rfl
theorem add_eq (b:ItemD) (a:List aj) (c f e:Int) (d:List ByteArray):b.add a c f e d=kW b.items (a ++ [⟨b,c,f,e,d⟩]) a.length 0 (e+1) (if b.k=3 then d ++ [b.nm] else d):=by
 cases b;rw[ItemD.add];rfl
def BJ (B0:Nat) (w:World) (B:Nat) (d:aj) (cs:List Value):Prop:=
 B0<=B/\B0<=w.heap.size/\∃ wu A c,cs=wu ++ [bO bQ d.par,bO bQ d.mZ,bO bQ d.eQ,bS A d.lo.length c]/\gY w B0 d.it wu/\w.ownsRow B 9 1 (bS A d.lo.length c) d.lo.length (jq d.lo)/\(∀ s∈d.lo,s.size<=maxLen)/\d.lo.length<=20
structure gB (B gb m1:Nat) (w w':World):Prop where
 os:w'.os=w.os
 tape:w'.tape=w.tape
 output:w'.output=w.output
 size:w.heap.size<=w'.heap.size
 old:∀ g,g<B->g≠gb->g≠m1->w'.heap[g]?=w.heap[g]?
 strs:∀ g cs,B<=g->ah w g 9 cs->ah w' g 9 cs
structure mY (w:World) (B0 gb m1 m2 m3 B:Nat) (x:nM) (A:Option Addr) (c:Nat) (f:bC) (N N':List aj):Prop where
 blk:ah w gb 115 #[bR f.nm,bO bQ f.zW,bS x.AL f.bD.length x.cl,bS x.AS f.lists.length x.cs,bS x.AI f.items.length x.ci,bS A N.length c,.map (some m1),.map (some m2),.map (some m3)]
 row:wC 110 23 (BJ B0) w B (bS A N.length c) N
 by_:∃ kv,aP w m1 kv/\QO kv N'/\kv.length<=N'.length
 ne:B0<=gb/\B0<=m1/\gb<B/\m1<B/\gb≠m1
 le:B<=w.heap.size
 len:N.length<=301
theorem gB.trans {B gb m1:Nat} {w w' w'':World} (h:gB B gb m1 w w') (k:gB B gb m1 w' w''):gB B gb m1 w w'':=
 ⟨k.os.trans h.os,k.tape.trans h.tape,k.output.trans h.output,b4 h.size k.size,λ g a b c=>(k.old g a b c).trans (h.old g a b c),λ g cs a b=>k.strs g cs a (h.strs g cs a b)⟩
theorem gB.of {B gb m1:Nat} {w w':World} (h:IY w w') (c:B<=w.heap.size):gB B gb m1 w w':=
 ⟨h.os,h.tape,h.output,h.size,λ g a _ _=>h.block g (by omega),λ g cs _ b=>b.below h b.lt⟩
theorem gB.below {B gb m1 B0:Nat} {w w':World} (h:gB B gb m1 w w') (a:B0<=gb) (b:B0<=m1) (c:B0<=B):Below B0 w w':=
 ⟨h.os,h.tape,h.output,h.size,λ g d=>h.old g (by omega) (by omega) (by omega)⟩
theorem gB.str {B gb m1 n:Nat} {w w':World} {v:Value} {xs:List Value} (h:gB B gb m1 w w') (e:w.ownsRow B 9 1 v n xs):w'.ownsRow B 9 1 v n xs:=by
 refine⟨e.1,e.2.imp id ?_⟩;rintro ⟨d,b,a,f,c,g,e3⟩;exact⟨d,b,a,f,c,h.strs d a c g,e3⟩
theorem gB.grown {B gb m1 k n:Nat} {w w':World} {v:Value} {f:List Value} (d:w.ownsRow B 110 k v n f) (c:w.grownBy w' v.ownBlock) (h:B<=w.heap.size):gB B gb m1 w w':=
 ⟨c.os,c.tape,c.output,c.size,λ g a _ _=>c.block g (by omega) (λ e=>by have:=(d.lt g e.symm).1;omega),λ g cs _ b=>b.grown c (λ e=>qg d b (by decide) e.symm)⟩
theorem gB.set {B gb m1:Nat} {w:World} (h:gb<B) (j:Nat) (u:Value):gB B gb m1 w (w.setCell ⟨gb,j,none⟩ u):=
 ⟨rfl,rfl,rfl,by simp[World.setCell],λ g _ b _=>Below.heap_setCell w _ u g b,λ g cs a b=>b.far (by show g≠gb;omega) u⟩
theorem gB.put {B gb m1:Nat} {w w':World} (h:m1<B) (d:w.grownBy w' (some m1)) (f:B<=w.heap.size):gB B gb m1 w w':=
 ⟨d.os,d.tape,d.output,d.size,λ g a _ c=>d.block g (by omega) (λ e=>c (by injection e)),λ g cs a b=>b.grown d (λ e=>by injection e;omega)⟩
theorem zS {B0:Nat}:Oq 110 (BJ B0) where
 later:=by
  rintro w w' B d cs ⟨b,a,i,A,c,e,f,h,l⟩ j;exact⟨b,b4 a j.size,i,A,c,e,f.keep (j.mono a),dm h j,l⟩
 grown:=by
  rintro w w' B d cs v k n q ⟨b,a,i,A,c,e,f,h,l⟩ o m;exact⟨b,b4 a m.size,i,A,c,e,f.keep (nD m a (λ g p=>b4 b (o.lt g p).1)),sN h o (by decide) m,l⟩
theorem BJ.keep {B0 B gb m1:Nat} {w w':World} {d:aj} {cs:List Value} (h:BJ B0 w B d cs) (a:gB B gb m1 w w') (m:B0<=gb) (i:B0<=m1):BJ B0 w' B d cs:=by
 obtain⟨g,b,k,A,c,e,f,j,l⟩:=h;exact⟨g,b4 b a.size,k,A,c,e,f.keep (a.below m i g),a.str j,l⟩
section
variable {w w':World} {B0 gb m1 m2 m3 B:Nat} {x:nM} {A:Option Addr} {c:Nat} {f:bC} {N N':List aj}
theorem mY.later (h:mY w B0 gb m1 m2 m3 B x A c f N N') (a:IY w w'):mY w' B0 gb m1 m2 m3 B x A c f N N':=by
 obtain⟨d,b,e⟩:=h.by_;exact⟨h.blk.below a h.blk.lt,h.row.keep zS a,⟨d,b.below a b.lt,e⟩,h.ne,b4 h.le a.size,h.len⟩
theorem mY.push (h:mY w B0 gb m1 m2 m3 B x A c f N N') {d:aj} {cs ds:List Value} {g a:Nat} (b:w.ownsRow B 110 23 (bS A N.length c) N.length cs) (s:∀ i (h:i<N.length),BJ B0 w B N[i] ((cs.drop (i*23)).take 23)) (v:BJ B0 w B d ds) (E:ds.length=23)
  (z:w'.ownsRow B 110 23 (bS (some ⟨g,0,none⟩) (N.length+1) a) (N.length+1) (cs ++ ds)) (j:w.grownBy w' (cg A N.length c).ownBlock) (H:N.length<=300) :
  mY (w'.setCell ⟨gb,5,none⟩ (bS (some ⟨g,0,none⟩) (N.length+1) a)) B0 gb m1 m2 m3 B x (some ⟨g,0,none⟩) a f (N ++ [d]) N'/\gB B gb m1 w (w'.setCell ⟨gb,5,none⟩ (bS (some ⟨g,0,none⟩) (N.length+1) a)):=by
 obtain⟨D,r,n,C,p⟩:=h.ne;have l:gB B gb m1 w w':=gB.grown b j h.le;have m:gB B gb m1 w' (w'.setCell ⟨gb,5,none⟩ (bS (some ⟨g,0,none⟩) (N.length+1) a)):=gB.set n 5 _;obtain⟨u,o,t⟩:=h.by_;have y:=h.blk.grown j (λ e=>by have:=(b.lt gb e.symm).1;omega);obtain⟨k,q,F⟩:=wC.snoc zS b s v E z j;rw[cb,cw] at q;refine⟨⟨?_,⟨k,?_,λ i G=>(F i G).keep m D r⟩,⟨u,(o.same (l.old m1 C (λ e=>p e.symm) |> λ _=>j.block m1 o.lt (λ e=>by have:=(b.lt m1 e.symm).1;omega))).setCell (λ e=>p e.symm) _,t⟩,h.ne,?_,by simp;omega⟩,l.trans m⟩
 .have:=y.eG 5 (bS (some ⟨g,0,none⟩) (N.length+1) a);simpa using this
 .rw[cb,cw];exact oQ q n _
 .exact b4 h.le (b4 l.size m.size)
theorem mY.named (h:mY w B0 gb m1 m2 m3 B x A c f N N') (a:w.grownBy w' (some m1)) {N2:List aj} (l:∃ b,aP w' m1 b/\QO b N2/\b.length<=N2.length):mY w' B0 gb m1 m2 m3 B x A c f N N2/\gB B gb m1 w w':=by
 obtain⟨j,k,r,o,p⟩:=h.ne;have d:gB B gb m1 w w':=gB.put o a h.le;obtain⟨cs,g,m⟩:=h.row;refine⟨⟨h.blk.grown a (λ e=>p (by injection e)),⟨cs,g.kept a ?_,λ i n=>(m i n).keep d j k⟩,l,h.ne,b4 h.le a.size,h.len⟩,d⟩;cases hq:(cg A N.length c).ownBlock with
 | none=>exact .inl rfl
 | some q=>exact .inr (λ e=>by injection e with e;have:=(g.lt q hq).1;omega)
end
theorem J5 (N:List aj) (d:aj) (s:ByteArray):jI (N ++ [d]) s=if jI N s<0 then (if d.it.nm=s then (N.length:Int) else -1) else jI N s:=by
 unfold jI;rw[List.findIdx?_append];cases h:N.findIdx? (λ d=>decide (d.it.nm=s)) with
 | some i=>simp;omega
 | none =>
  by_cases e:d.it.nm=s
  .simp[e]
  .simp[e]
theorem Z9 {a:List (ByteArray × Value)} {N:List aj} {d:aj} (h:QO a N) (b:jI N d.it.nm<0):QO ((d.it.nm,bO bQ (N.length:Nat)) :: a) (N ++ [d]):=by
 intro s;rw[fK,J5];by_cases e:d.it.nm=s
 .subst e;rw[if_pos rfl,if_pos b,if_pos rfl,if_neg (by omega)]
 .rw[if_neg e,if_neg e,h s];by_cases h0:jI N s<0
  .rw[if_pos h0,if_pos h0,if_pos (by decide)]
  .rw[if_neg h0,if_neg h0,if_neg h0]
theorem aab {a:List (ByteArray × Value)} {N:List aj} {d:aj} (h:QO a N) (b:¬ jI N d.it.nm<0):QO a (N ++ [d]):=by
 intro s;rw[J5,h s];by_cases h0:jI N s<0
 .have e:¬ d.it.nm=s:=λ e=>b (e▸h0);rw[if_pos h0,if_pos h0,if_neg e,if_pos (by decide)]
 .rw[if_neg h0,if_neg h0,if_neg h0]
end Go.Proofs.YtcnagconagpkcaaGreatDoor
namespace Go.Proofs.YtcnagconagpkcaaGreatDoor
open Go.RowKit
attribute [local go_sem ↓] Go.wp_at_zero Go.wp_at_succ
attribute [local go_sem ↓] ld_item st_item ld_node st_node ld_ans st_ans ld_part st_part ld_rule st_rule ld_form st_form
attribute [local go_sem ↓] bd_node bs_node
set_option maxHeartbeats 4000000
set_option maxRecDepth 100000
theorem gY.look {w:World} {B0:Nat} {d:ItemD} {cs:List Value} (h:gY w B0 d cs):cs.length=19/\(∀ v∈cs,v.oneCell'=true)/\∃ a b,cs[0]?=some (bO bQ d.k)/\cs[1]?=some (bR d.nm)/\cs[4]?=some (bS a d.items.length b)/\AU w B0 a d.items/\d.items.length<=b/\d.nm.size<=maxLen:=by
 cases h with
 | mk h1 h2 h4 h5 ha l1 l3 l4 l5 l6 l7 l8 hr hi=>exact⟨rfl,by simp[itC,X9,Value.oneCell'],_,_,rfl,rfl,rfl,⟨l8,_,hr,hi⟩,l3,l6⟩
theorem aac:(Tryz.prog.info? 110).map (λ i=>(i.zero,i.size,i.bytes))=some (some (.agg #[.int .i64 0,.string ⟨#[]⟩,.slice none 0 0,.slice none 0 0,.slice none 0 0,.bool false,.slice none 0 0,.string ⟨#[]⟩,.int .i64 0,.int .i64 0,.int .i64 0,.int .i64 0,.string ⟨#[]⟩,.slice none 0 0,.bool false,.slice none 0 0,.bool false,.slice none 0 0,.slice none 0 0,.int .i64 0,.int .i64 0,.int .i64 0,.slice none 0 0]),23,352):=by kernel_rfl
theorem Wp {l:List ItemD} {N:List aj} {a b:Int} {lo:List ByteArray} {k:Nat} (h:k<l.length):kW (l.drop k) N a k b lo=if 300<N.length\/13<b then N else kW (l.drop (k+1)) (l[k].add N a k b lo) a ((k+1:Nat):Int) b lo:=by
 rw[List.drop_eq_getElem_cons h,kW];rfl
theorem aad {l:List ItemD} {N:List aj} {a c:Int} {b:List ByteArray}:kW (l.drop l.length) N a l.length c b=N:=by
 rw[List.drop_length,kW]
def acQ (B0 gb m1 m2 m3 B:Nat) (x:nM) (f:bC) (R:List aj) (w w':World):Prop:=∃ A2 c2,mY w' B0 gb m1 m2 m3 B x A2 c2 f R R/\gB B gb m1 w w'
def aae (B0 gb m1 m2 m3 B:Nat) (x:nM) (f:bC) (items:List ItemD):Prop:=∀ (w:World) (N:List aj) (A A' AL:Option Addr) (c c' cl:Nat) (par:Int) (eQ:Nat) (lo:List ByteArray),mY w B0 gb m1 m2 m3 B x A c f N N->AU w B0 A' items->items.length<=c'->w.ownsRow B 9 1 (bS AL lo.length cl) lo.length (jq lo)->(∀ s∈lo,s.size<=maxLen)->eQ<=14->lo.length<=eQ ->
 Calls Tryz.prog 111 #[bX (some ⟨gb,0,none⟩),bS A' items.length c',bO bQ par,bO bQ (eQ:Nat),bS AL lo.length cl] w λ e w'=>e = b0 (.tuple #[])/\acQ B0 gb m1 m2 m3 B x f (kW items N par 0 eQ lo) w w'
theorem PW {B0 gb m1 m2 m3 B:Nat} {x:nM} {f:bC} {items:List ItemD} (T:∀ it∈items,aae B0 gb m1 m2 m3 B x f it.items):aae B0 gb m1 m2 m3 B x f items:=by
 intro w N A A' X c c' Y m eQ l hA hit bL a0 bg bK bN;obtain⟨i0,av,be,bh,aw⟩:=info_parts xU;obtain⟨j0,bB,bo,bk,bq⟩:=info_parts aac;obtain⟨n1,n2,n3,n4,n5⟩:=hA.ne;have r:B0<=B:=b4 n1 (Nat.le_of_lt n3);have bn:=hit.1;unfold maxLen at bn;have H:=qh (b5 hit (b5 a0 bg));have HR:=qh T;obtain⟨R,hR⟩:=af (kW items N m 0 eQ l);have br:=qh (show R=kW (items.drop 0) N m (0:Nat) eQ l from hR.symm);have bf:=qh hA;rw[hR];clear hA hit a0 bg T hR;go_enter Tryz.func111,Tryz.ntmps111;go_wp2;go_loopw [18] (λ i wr=>∃ (k:Nat) (b:List aj) (A:Option Addr) (c:Nat),i = bO bQ k/\k<=items.length/\Hid (R=kW (items.drop k) b m k eQ l)/\Hid (mY wr B0 gb m1 m2 m3 B x A c f b b)/\Hid (gB B gb m1 w wr)) (λ i _=>items.length+1 - (intOf i).toNat)
 case atStart=>exact⟨0,N,A,c,rfl,b7 _,br,bf,qh (gB.of (Below.refl _ _) bf.o.le)⟩
 case round =>
  obtain⟨k,b,A,c,rfl,hk,y,L,V⟩:=hrel;by_cases hlt:k<items.length
  case neg =>
   obtain rfl:k=items.length:=by omega
   have HE:=qh (y.o.trans aad);go_wp2;go_end0;exact⟨rfl,A,c,HE.o▸L.o,V.o⟩
  have y:=qh (y.o.trans (Wp hlt));have ay:Below B0 w wr:=V.o.below n1 n2 r;obtain⟨ad,ci,rfl,F,P,G⟩:=aB.at_ (aB.keep (λ _ _ h=>h.keep ay) H.o.1 ay) hlt;have ab:=qh (HR.o _ (b9 hlt));obtain⟨d,hd⟩:=af (items[k]);rw[hd] at P y ab;obtain⟨E,ba,A3,c3,e0,e1,e4,a7,aR,ae⟩:=P.look;have an:=yN (w:=wr) E G;have bb:=JC (w:=wr) E ba;obtain⟨W,hW,uJ,BW⟩:=box wr 59 ci.toArray;rw[<- hW] at bb;clear hW;have K:=L.o.le;have V:=qh (V.o.trans (gB.of uJ K));have L:=qh (L.o.later uJ);have bt:=uJ.size;have D:=L.o.len;have a4:=qh (show ∀ w',IY wr w'\/gB B gb m1 W w'->AU w' B0 A3 d.items from λ w' hq=>by
   have:Below B0 wr w':=hq.elim (λ h=>h.mono (b4 r K)) (λ h=>(uJ.mono (b4 r K)).trans (h.below n1 n2 r));exact a7.keep (λ _ _ h=>h.keep this) this)
  have aW:=qh hlt;have r5:=L.o.blk.cell 5;have nP:=qh (b5 e0 (b5 e1 (b5 e4 (P.keep (uJ.mono (b4 r K))))));clear G F hd a7 P hlt;go_upto_region 3 with (fail);clear an bb;by_cases h3:300<b.length
  .have HE:=qh (y.o.trans (if_pos (.inl h3)));have g3:(300:Int)<b.length:=by omega
   have Q:decide ((300:Int)<b.length)=true:=decide_eq_true g3;have bj:decide (300<b.length)=true:=decide_eq_true h3;clear h3;go_wp2
   (try simp only[Exit.inBlock,Exit.then])
   refine bodyPost_ret (results_none rfl _ _ _) rfl ?_;exact⟨rfl,A,c,HE.o▸L.o,V.o⟩
  have g3:¬ (300:Int)<b.length:=by omega
  have Q:decide ((300:Int)<b.length)=false:=decide_eq_false g3;have bj:decide (300<b.length)=false:=decide_eq_false h3;by_cases h13:13<eQ
  .have HE:=qh (y.o.trans (if_pos (.inr (by omega))));have g4:(13:Int)<eQ:=by omega
   have a8:decide ((13:Int)<eQ)=true:=decide_eq_true g4;have aM:decide (13<eQ)=true:=decide_eq_true h13;clear h13;go_wp2
   (try simp only[Exit.inBlock,Exit.then])
   refine bodyPost_ret (results_none rfl _ _ _) rfl ?_;exact⟨rfl,A,c,HE.o▸L.o,V.o⟩
  have g4:¬ (13:Int)<eQ:=by omega
  have a8:decide ((13:Int)<eQ)=false:=decide_eq_false g4;have aM:decide (13<eQ)=false:=decide_eq_false h13;have y:=qh (y.o.trans (if_neg (λ h=>h.elim h3 (λ h=>h13 (by omega)))));rw[add_eq] at y;go_upto_region 5 with (fail);clear g3 Q bj g4 a8 aM;obtain⟨ds,J⟩:∃ ds:List Value,ci ++ [bO bQ m,bO bQ (k:Nat),bO bQ (eQ:Nat),bS X l.length Y]=ds:=⟨_,rfl⟩;have ak:ds.length=23:=by rw[<- J,cb,E];rfl
  have bd:=λ w'=>afO (w:=w') E m (k:Nat) (eQ:Nat) X l.length Y;rw[J] at bd;have bw:=λ w'=>afP (w:=w') ak;have bc:∀ v∈ds,v.oneCell'=true:=by
   intro v hv;rw[<- J] at hv;rcases cp.1 hv with q | q
   .exact ba v q
   .simp only[cq,ca,List.not_mem_nil,or_false] at q;rcases q with rfl | rfl | rfl | rfl <;> rfl
  obtain⟨xs,aE,a5⟩:=L.o.row;have OV:(W.alloc (.cells ds.toArray 110 (0,0))).drew.ownsRow B 110 23 (bS A b.length c) b.length xs:=aE.alloc _;have HX:=qh a5;have EI:=qh (show W.ownsRow B 9 1 (bS X l.length Y) l.length (jq l) from V.o.str H.o.2.1);have ng:=qh BW;have kX:=qh L.o.blk;have al:B<=W.heap.size:=b4 K bt;have r5:W.drew.cell? ⟨gb,5,none⟩=some (bS A b.length c):=kX.o.drew.cell 5;have bs:(W.alloc (.cells ds.toArray 110 (0,0))).drew.cell? ⟨gb,5,none⟩=some (bS A b.length c):=(kX.o.alloc _).drew.cell 5;have an:=yN (w:=W.drew) E (nI ng.o.drew);have bm:=qh (show ∀ w',IY W w'->mY w' B0 gb m1 m2 m3 B x A c f b b/\(∀ i (h:i<b.length),BJ B0 w' B b[i] ((xs.drop (i*23)).take 23))/\BJ B0 w' B ⟨d,m,(k:Nat),(eQ:Nat),l⟩ ds from λ w' hq =>
   ⟨L.o.later hq,λ i hi=>zS.later (HX.o i hi) hq,r,b4 r (b4 al hq.size),ci,X,Y,J.symm,nP.o.2.2.2.keep (hq.mono (b4 r al)),dm EI.o hq,H.o.2.2,by show l.length<=20;omega⟩)
  obtain⟨O,aD⟩:=af (b ++ [⟨d,m,(k:Nat),(eQ:Nat),l⟩]);have C:=qh aD;clear aE a5 BW J aD;go_cut [12] from 19 (λ v wd=>v = bO bQ (b.length:Nat)/\Hid (∃ A4 c4,mY wd B0 gb m1 m2 m3 B x A4 c4 f O b)/\Hid (gB B gb m1 W wd)/\Hid (ah wd wr.heap.size 59 ci.toArray))
  case first =>
   go_region_law (refine step_append_lies _ rfl _ _ 111 rfl B 110 j0 (.agg #[.int .i64 0,.string ⟨#[]⟩,.slice none 0 0,.slice none 0 0,.slice none 0 0,.bool false,.slice none 0 0,.string ⟨#[]⟩,.int .i64 0,.int .i64 0,.int .i64 0,.int .i64 0,.string ⟨#[]⟩,.slice none 0 0,.bool false,.slice none 0 0,.bool false,.slice none 0 0,.slice none 0 0,.int .i64 0,.int .i64 0,.int .i64 0,.slice none 0 0]) 23 352 Tryz.underlying111 bB bo bk bq rfl (by decide) _ b.length xs rfl OV ⟨W.heap.size,0,none⟩ 1 1 ds rfl (by rw[ak]) (nI (cs:=ds) (ah.new W _ _)) bc (by decide) (by unfold maxLen;omega) (by omega) (by simp;omega) _ rfl ?_;intro g4 bD w4 ap ao _ _;have ar:=(kX.o.alloc (.cells ds.toArray 110 (0,0))).drew.grown ao (λ e=>qg OV (kX.o.alloc _).drew (by decide) e.symm);have bv:=(ng.o.alloc (.cells ds.toArray 110 (0,0))).drew.grown ao (λ e=>qg OV (ng.o.alloc _).drew (by decide) e.symm);have z5:=ar.cell 5;have bE:=ar.frozen 5)
   all_goals
    obtain⟨a1,a2,a3⟩:=bm.o _ (az W _).drew;obtain⟨U,F5⟩:=a1.push OV a2 a3 ak ap ao (by omega);rw[C.o] at U
    try go_wp2_with fail
    go_meet
    exact⟨rfl,qh ⟨_,_,U⟩,qh ((gB.of (az W _).drew al).trans F5),qh (bv.far (by show wr.heap.size≠gb;omega) _)⟩
  case rest =>
  obtain⟨rfl,H5,F5,B5⟩:=hcut;clear an r5 bs OV bd bw bc;obtain⟨A4,c4,U⟩:=H5.o;obtain⟨kv,k1,k2,k3⟩:=U.by_;have g6:wc.cell? ⟨gb,6,none⟩=some (.map (some m1)):=U.blk.cell 6;have a6:=U.le;have H5:=qh U;have K2:=qh (b5 k2 k3);have F:=λ (w':World) (h:ah w' wr.heap.size 59 ci.toArray)=>b5 (show w'.cell? ⟨wr.heap.size,0,none⟩=some (.int .i64 d.k) by rw[h.cell 0];simpa using nP.o.1) (b5 (show w'.cell? ⟨wr.heap.size,1,none⟩=some (.string d.nm) by rw[h.cell 1];simpa using nP.o.2.1) (show w'.cell? ⟨wr.heap.size,4,none⟩=some (.slice A3 d.items.length c3) by rw[h.cell 4];simpa using nP.o.2.2.1));have bx:=qh F;obtain⟨r0,r1,r4⟩:=F _ B5.o;have hl:=(show aP wc.drew m1 kv from k1.same rfl).look Tryz.underlying112 (Yb _) ae;rw[k2 d.nm] at hl;have K1:=qh k1;clear U k1 k2 F;by_cases hnum:jI b d.nm<0
  case' pos =>
   rw[if_pos hnum] at hl;simp only[Option.getD_none,Option.isSome_none] at hl;go_upto_region 6 with (fail);go_region;obtain⟨W6,bi,Wi,am⟩:=(show aP wc.drew.drew m1 kv from K1.o.same rfl).put Tryz.underlying112 (by unfold maxLen;omega) ae (.int .i64 (b.length:Nat));go_upto_region 8 with (fail);go_region;have p:IY wc wc.drew.drew:=(Below.refl _ _).drew.drew;obtain⟨P6,Z⟩:=(H5.o.later p).named am (N2:=O) ⟨_,Wi,C.o▸Z9 (d:=⟨d,m,(k:Nat),(eQ:Nat),l⟩) K2.o.1 hnum,by rw[<- C.o];simp;exact K2.o.2⟩;have Z:=qh (F5.o.trans ((gB.of p a6).trans Z));have B6:=qh (B5.o.drew.drew.grown am (λ e=>by injection e;omega));clear bi Wi am p
  case' neg =>
   rw[if_neg hnum] at hl;simp only[Option.getD_some,Option.isSome_some] at hl;go_upto_region 6 with (fail);go_region;obtain⟨W6,yC⟩:∃ W',W'=wc.drew:=⟨_,rfl⟩;have p:IY wc W6:=yC▸(Below.refl _ _).drew;obtain⟨P6,Z⟩:=(H5.o.later p).named (World.grownBy.refl _ _) (N2:=O) ⟨_,K1.o.below p K1.o.lt,C.o▸aab (d:=⟨d,m,(k:Nat),(eQ:Nat),l⟩) K2.o.1 hnum,by rw[<- C.o];simp;have:=K2.o.2;omega⟩;have Z:=qh (F5.o.trans (gB.of p a6));have B6:=qh (B5.o.below p B5.o.lt);rw[<- yC];clear yC p
  all_goals
   clear hl g6 r0 r1 r4 hnum;obtain⟨r0,r1,r4⟩:=bx.o _ B6.o;have ax:=P6.le;have H6:=qh P6;have y:=y;have i1:IntKind.i64.wrap ((eQ:Int)+1)=(eQ:Int)+1:=IntWalk.i64_in _ (by omega);have i2:(eQ:Int)+1=((eQ+1:Nat):Int):=by omega
   rw[C.o,i2] at y;have a9:=qh (Z.o.str EI.o);clear P6 i2;by_cases h3:d.k=3
   case' neg =>
    have S:=qh (show R=kW (items.drop (k+1)) (kW d.items O (b.length:Nat) 0 (eQ+1:Nat) l) m ((k+1:Nat):Int) eQ l by rw[y.o,if_neg h3]);have KR:=qh (show Calls Tryz.prog 111 #[bX (some ⟨gb,0,none⟩),bS A3 d.items.length c3,bO bQ (b.length:Nat),bO bQ ((eQ:Int)+1),bS X l.length Y] W6 λ e w'=>e = b0 (.tuple #[])/\acQ B0 gb m1 m2 m3 B x f (kW d.items O (b.length:Nat) 0 (eQ+1:Nat) l) W6 w' from ab.o W6 O _ A3 X _ c3 Y (b.length:Nat) (eQ+1) l H6.o (a4.o _ (.inr Z.o)) aR a9.o H.o.2.2 (by omega) (by omega));obtain⟨N8,z⟩:=af (kW d.items O (b.length:Nat) 0 (eQ+1:Nat) l);rw[z] at S KR;obtain⟨g3,Q⟩:=fU h3;have F9:=Z;clear h3 z
   case' pos =>
    have S:=qh (show R=kW (items.drop (k+1)) (kW d.items O (b.length:Nat) 0 (eQ+1:Nat) (l ++ [d.nm])) m ((k+1:Nat):Int) eQ l by rw[y.o,if_pos h3]);obtain⟨N8,z⟩:=af (kW d.items O (b.length:Nat) 0 (eQ+1:Nat) (l ++ [d.nm]));rw[z] at S;obtain⟨g3,Q⟩:=jk h3;have bA:=qh z;clear h3 z;have t:=Below.refl W6.heap.size W6;have NQ:∀ o,IY W6 (W6.alloc o).drew:=λ o=>(t.alloc (b6 _) _).drew;have K1:=qh (show ∀ w',IY W6 w'->Calls Tryz.prog 38 #[bS X l.length Y] w' λ en aq=>∃ v,en = b0 v/\aq.ownsRow W6.heap.size 9 1 v l.length (jq l)/\IY W6 aq/\IY w' aq from λ w' hb =>
     (cloneS l X Y _ w' ((Reads.ig a9.o).below hb) (by omega)).mono λ _ _ ⟨v,he,ho,hk⟩=>⟨v,he,own_base ho hb.size,hb.trans (hk.mono hb.size),hk⟩)
    have HS:=qh (show ∀ w',IY W6 w'->w'.cell? ⟨wr.heap.size,1,none⟩=some (bR d.nm)/\IY W6 w' from λ w' hb=>⟨Below.cell_of hb r1,hb⟩);have bp:=qh r4;clear r4;go_upto_region 11 with (fail);clear r0 r1;have r1:=(HS.o _ t).1;go_region_held3 (λ w'=>w'.cell? ⟨wr.heap.size,1,none⟩=some (bR d.nm)/\IY W6 w')
     (first | exact HS.o _ t | exact HS.o _ t.drew | exact HS.o _ n | exact HS.o _ M | exact HS.o _ (n.alloc (b4 t.size n.size) _) | exact HS.o _ (NQ _))
     (first
      | (go_at_call 38;(with_reducible refine (K1.o _ t.drew).mono ?_);rintro e1 w1 ⟨v,rfl,I,n,ry⟩)
      | (go_at_call 38;(with_reducible refine (K1.o _ (NQ _)).mono ?_);rintro e1 w1 ⟨v,rfl,I,n,ry⟩;have bl:=Below.cell_of (a:=⟨W6.heap.size,0,none⟩) (v:=bR d.nm) ry (by simp[go_sem]))
      | (refine step_append_lies _ rfl _ _ 22 rfl W6.heap.size 9 i0 (.string ByteArray.empty) 1 16 Tryz.underlying22 av be bh aw rfl (by decide) v l.length (jq l) rfl (I.alloc _) ⟨w1.heap.size,0,none⟩ 1 1 [.string d.nm] rfl rfl (by intro j u hj;cases j <;> simp_all[go_sem]) (by intro u hu;simp only[ca] at hu;subst hu;rfl) (by decide) (by unfold maxLen;omega) (by omega) (by have:=n.size;first | omega | (simp;omega)) _ rfl ?_;intro g ac w2 aL aa _ _;have M:=(n.alloc (b4 t.size n.size) _).grown aa (by have:=n.size;simp;omega) (λ g hg=>(I.lt g hg).1))
      | (refine step_append_lies _ rfl _ _ 22 rfl W6.heap.size 9 i0 (.string ByteArray.empty) 1 16 Tryz.underlying22 av be bh aw rfl (by decide) v l.length (jq l) rfl I ⟨W6.heap.size,0,none⟩ 1 1 [.string d.nm] rfl rfl (by intro j u hj;cases j with | zero=>(have hu:u = .string d.nm:=by simpa using hj.symm);subst hu;exact bl | succ j=>simp at hj) (by intro u hu;simp only[ca] at hu;subst hu;rfl) (by decide) (by unfold maxLen;omega) (by omega) (by have:=n.size;first | omega | (simp;omega)) _ rfl ?_;intro g ac w2 aL aa _ _;have M:=n.grown aa n.size (λ g hg=>(I.lt g hg).1)))
    all_goals
     have D:(l ++ [d.nm]).length=l.length+1:=by simp
     have F9:=qh (Z.o.trans (gB.of M ax));have KR:=qh (show Calls Tryz.prog 111 #[bX (some ⟨gb,0,none⟩),bS A3 d.items.length c3,bO bQ (b.length:Nat),bO bQ ((eQ:Int)+1),bS (some ⟨g,0,none⟩) (l.length+1) ac] w2 λ e w'=>e = b0 (.tuple #[])/\acQ B0 gb m1 m2 m3 B x f N8 w2 w' by
      have h:=ab.o w2 O _ A3 (some ⟨g,0,none⟩) _ c3 ac (b.length:Nat) (eQ+1) (l ++ [d.nm]) (H6.o.later M) (a4.o _ (.inr F9.o)) aR (by rw[Ci,D];exact own_base aL ax) (λ s hs=>by
       rcases cp.1 hs with q | q
       .exact H.o.2.2 s q
       .rw[ca] at q;rw[q];exact ae) (by omega) (by omega)
      rw[D,bA.o] at h;exact h)
     have r4:=Below.cell_of M bp.o
   all_goals
    go_wp2_with (go_at_call 111;(with_reducible refine KR.o.mono ?_);rintro e8 w8 ⟨rfl,A8,c8,P8,F8⟩);go_roundw
    case rel=>exact⟨k+1,N8,A8,c8,by go_num,aW.o,S,qh P8,qh ((V.o.trans F9.o).trans F8)⟩
    case measure =>
     have:=aW.o;simp[intOf];omega
end Go.Proofs.YtcnagconagpkcaaGreatDoor
namespace Go.Proofs.YtcnagconagpkcaaGreatDoor
open Go.RowKit
attribute [local go_sem ↓] Go.wp_at_zero Go.wp_at_succ
set_option maxHeartbeats 4000000
set_option maxRecDepth 100000
section
variable {B0 gb m1 m2 m3 B:Nat} {x:nM} {f:bC}
mutual
theorem afS:∀ a:ItemD,aae B0 gb m1 m2 m3 B x f a.items
 | .mk _ _ _ _ items _ _ _ _ _=>PW (MH items)
theorem MH:∀ l:List ItemD,∀ b∈l,aae B0 gb m1 m2 m3 B x f b.items
 | [],_,h=>by cases h
 | a :: r,b,h=>by
  rcases cq.1 h with e | e
  .rw[e];exact afS a
  .exact MH r b e
end
theorem aag (items:List ItemD):aae B0 gb m1 m2 m3 B x f items:=PW (MH items)
end
theorem mY.other {w w':World} {B0 gb m1 m2 m3 B m:Nat} {x:nM} {A:Option Addr} {c:Nat} {f:bC} {N N':List aj} (h:mY w B0 gb m1 m2 m3 B x A c f N N') (a:w.grownBy w' (some m)) (F:m<B) (l:m≠gb) (s:m≠m1) (G:B0<=m):mY w' B0 gb m1 m2 m3 B x A c f N N':=by
 obtain⟨I,C,D,H,E⟩:=h.ne;obtain⟨cs,j,y⟩:=h.row;obtain⟨o,v,n⟩:=h.by_;refine⟨h.blk.grown a (λ e=>l (by injection e with e;exact e.symm)),⟨cs,j.kept a ?_,λ i z=>?_⟩,⟨o,v.kept a (λ e=>s (by injection e with e;exact e.symm)),n⟩,h.ne,b4 h.le a.size,h.len⟩
 .cases hq:(cg A N.length c).ownBlock with
  | none=>exact .inl rfl
  | some q=>exact .inr (λ e=>by injection e with e;have:=(j.lt q hq).1;omega)
 .obtain⟨p,d,t,A',c',e,u,b,r⟩:=y i z;refine⟨p,b4 d a.size,t,A',c',e,u.keep (nD a d (λ k g=>by injection g with g;omega)),b.kept a ?_,r⟩;cases hq:(cg A' N[i].lo.length c').ownBlock with
  | none=>exact .inl rfl
  | some q=>exact .inr (λ e=>by injection e with e;have:=(b.lt q hq).1;omega)
theorem mY.nodes {w:World} {B0 gb m1 m2 m3 B:Nat} {x:nM} {A:Option Addr} {c:Nat} {f:bC} {N N':List aj} (h:mY w B0 gb m1 m2 m3 B x A c f N N') (r:m3<B):uI w B0 m3 A N/\N.length<=c:=by
 obtain⟨cs,k,p⟩:=h.row;refine⟨⟨h.len,λ ad e=>?_,cs,Reads.ig k,λ i q=>?_⟩,oZ k⟩
 .subst e;rcases k.2 with ⟨a,-⟩ | ⟨d,j,g,a,l,-⟩
  .injection a with a;cases a
  .injection a with a;injection a with a;subst a;show d≠m3;omega
 .obtain⟨s,u,n,A',c',e,o,b,m,t⟩:=p i q;refine⟨n,A',c',e,o,⟨Reads.ig b,oZ b,by unfold maxLen;omega,m⟩,by omega,λ ad e=>?_⟩;subst e;rcases b.2 with ⟨a,-⟩ | ⟨d,j,g,a,l,-⟩
  .injection a with a;cases a
  .injection a with a;injection a with a;subst a;show d≠m3;omega
theorem Ib {L:List fD} {k:Nat} (h:k<L.length) (s:ByteArray):nU (L.take (k+1)) s=match nU (L.take k) s with | some l=>some l | none=>if L[k].nm=s then some L[k] else none:=by
 unfold nU;rw[cx h,List.find?_append];cases (L.take k).find? (λ l=>decide (l.nm=s)) with
 | some l=>rfl
 | none=>by_cases e:L[k].nm=s <;> simp[e]
theorem aah {w:World} {B0:Nat} {b:List (ByteArray × Value)} {L:List fD} {k:Nat} (h:Gp w B0 b (L.take k)) (i:k<L.length) (j:nU (L.take k) L[k].nm=none) {A:Option Addr} {c:Nat} (f:lZ w B0 L[k] (Lj L[k] A c)):Gp w B0 ((L[k].nm,.agg (Lj L[k] A c).toArray) :: b) (L.take (k+1)):=by
 intro s;rw[Ib i];have a:=h s;by_cases e:L[k].nm=s
 .subst e;rw[j,if_pos rfl];exact⟨A,c,by rw[fK,if_pos rfl],f⟩
 .cases hq:nU (L.take k) s with
  | some l =>
   rw[hq] at a;obtain⟨A',c',d,g⟩:=a;exact⟨A',c',by rw[fK,if_neg e];exact d,g⟩
  | none =>
   rw[hq] at a;rw[if_neg e];show fK _ s=none;rw[fK,if_neg e];exact a
theorem aai {w:World} {B0:Nat} {b:List (ByteArray × Value)} {L:List fD} {k:Nat} (h:Gp w B0 b (L.take k)) (c:k<L.length) (d:¬ nU (L.take k) L[k].nm=none):Gp w B0 b (L.take (k+1)):=by
 intro s;rw[Ib c];have a:=h s;cases hq:nU (L.take k) s with
 | some l=>rw[hq] at a;exact a
 | none =>
  rw[hq] at a;rw[if_neg (λ e=>d (by rw[e];exact hq))];exact a
def acS (f:bC) (x:nM) (B0:Nat) (e:Ending) (w':World):Prop:=∃ gb m1 m2 m3 A c,e = b0 (bX (some ⟨gb,0,none⟩))/\bF w' B0 gb m1 m2 m3 {x with AN:=A,cn:=c} f (aK f) []/\BH w' m3 [] 0
theorem open_any {w:World} {f:bC} {x:nM} (hf:mf w w.heap.size f x) :
  Calls Tryz.prog 70 #[.agg (Bd f x)] w λ e w'=>acS f x w.heap.size e w'/\IY w w':=by
 obtain⟨a,Y,T,r⟩:=box w 26 (Bd f x);have q0:=r.cell 0;have q1:=r.cell 1;have q2:=r.cell 2;have q3:=r.cell 3;have q4:=r.cell 4;have ak:=@run_makeMap Tryz.prog;have q:=qh hf;go_enter Tryz.func70,Tryz.ntmps70;go_upto_region 1 with (fail);rw[<- Y];clear Y;go_upto_region 2 with (fail);clear ak;obtain⟨W5,C⟩:∃ W',W'=(((a.alloc (.map #[] 0)).alloc (.map #[] 0)).alloc (.map #[] 0)).alloc (.cells #[bR f.nm,bO bQ f.zW,bS x.AL f.bD.length x.cl,bS x.AS f.lists.length x.cs,bS x.AI f.items.length x.ci,bS none 0 0,.map (some a.heap.size),.map (some (a.heap.size+1)),.map (some (a.heap.size+1+1))] 115 (0,0)):=⟨_,rfl⟩;have N:IY a W5:=C▸((((Below.refl _ a).alloc (b6 _) _).alloc (by simp) _).alloc (by simp;omega) _).alloc (by simp;omega) _;have aq:W5.heap.size=a.heap.size+4:=by rw[C];simp
 have M1:aP W5 a.heap.size []:=C▸(((aP.made a).alloc _).alloc _).alloc _;have M2:aP W5 (a.heap.size+1) []:=by
  have h:=((aP.made (a.alloc (.map #[] 0))).alloc (.map #[] 0)).alloc (.cells #[bR f.nm,bO bQ f.zW,bS x.AL f.bD.length x.cl,bS x.AS f.lists.length x.cs,bS x.AI f.items.length x.ci,bS none 0 0,.map (some a.heap.size),.map (some (a.heap.size+1)),.map (some (a.heap.size+1+1))] 115 (0,0));rw[C];simpa using h
 have M3:aP W5 (a.heap.size+1+1) []:=by
  have h:=(aP.made ((a.alloc (.map #[] 0)).alloc (.map #[] 0))).alloc (.cells #[bR f.nm,bO bQ f.zW,bS x.AL f.bD.length x.cl,bS x.AS f.lists.length x.cs,bS x.AI f.items.length x.ci,bS none 0 0,.map (some a.heap.size),.map (some (a.heap.size+1)),.map (some (a.heap.size+1+1))] 115 (0,0));rw[C];simpa using h
 have Q:ah W5 (a.heap.size+1+1+1) 115 #[bR f.nm,bO bQ f.zW,bS x.AL f.bD.length x.cl,bS x.AS f.lists.length x.cs,bS x.AI f.items.length x.ci,bS none 0 0,.map (some a.heap.size),.map (some (a.heap.size+1)),.map (some (a.heap.size+1+1))]:=by
  have h:=ah.new (((a.alloc (.map #[] 0)).alloc (.map #[] 0)).alloc (.map #[] 0)) 115 #[bR f.nm,bO bQ f.zW,bS x.AL f.bD.length x.cl,bS x.AS f.lists.length x.cs,bS x.AI f.items.length x.ci,bS none 0 0,.map (some a.heap.size),.map (some (a.heap.size+1)),.map (some (a.heap.size+1+1))];rw[C];simpa using h
 have BF:=r.below N r.lt;have ap:=r.lt;have E:=T.size;rw[<- C];clear C q0 q1 q2 q3 q4;obtain⟨gb,I⟩:=af (a.heap.size+1+1+1);rw[I] at Q ⊢;obtain⟨m3,K⟩:=af (a.heap.size+1+1);rw[K] at Q M3 ⊢;obtain⟨m2,G⟩:=af (a.heap.size+1);rw[G] at Q M2 ⊢;obtain⟨m1,M⟩:=af (a.heap.size);have nO:=T.trans (N.mono E);rw[M] at Q M1 aq ap E ⊢;have HM:=qh (b5 I (b5 K (b5 G M)));have n1:m1<m2:=by omega
 have n2:m2<m3:=by omega
 have n3:m3<gb:=by omega
 have n4:gb<W5.heap.size:=by omega
 have aa:mY W5 w.heap.size gb m1 m2 m3 W5.heap.size x none 0 f [] []:=⟨Q,wC.nil,⟨[],M1,λ s=>rfl,b6 _⟩,⟨by omega,by omega,n4,by omega,by omega⟩,b6 _,b7 _⟩;have KA:=qh (show Calls Tryz.prog 111 #[bX (some ⟨gb,0,none⟩),bS x.AI f.items.length x.ci,bO bQ (-1),bO bQ 1,bS none 0 0] W5 λ e w'=>e = b0 (.tuple #[])/\acQ w.heap.size gb m1 m2 m3 W5.heap.size x f (aK f) W5 w' from
  aag f.items W5 [] none x.AI none 0 x.ci 0 (-1) 1 [] aa (q.o.it.keep (λ _ _ h=>h.keep nO) nO) q.o.ii (World.ownsRow_nil _ _ _ _) (λ s h=>by cases h) (by omega) (b7 _))
 have q4:=BF.cell 4;clear aa Q M1 I K G M N r hf;go_upto_region 3 with (go_at_call 111;(with_reducible refine KA.o.mono ?_);rintro e1 w6 ⟨rfl,A6,c6,P6,F6⟩);have BF:ah w6 w.heap.size 26 (Bd f x):=(F6.old _ (by omega) (by omega) (by omega)).trans BF;have M2:=qh (M2.same (F6.old m2 (by omega) (by omega) (by omega)));have M3:=qh (M3.same (F6.old m3 (by omega) (by omega) (by omega)));have KJ:=nO.trans (F6.below (B0:=w.heap.size) (by omega) (by omega) (by omega));have P6:=qh P6;obtain⟨AS,J⟩:=af (x.AS);obtain⟨cS,F⟩:=af (x.cs);have q3:w6.cell? ⟨w.heap.size,3,none⟩=some (bS AS f.lists.length cS):=by rw[BF.cell 3,<- J,<- F];rfl
 obtain⟨L,hL⟩:=af (f.lists);rw[hL] at q3;have HL:=qh (show aB lZ 2 w w.heap.size AS L/\L.length<=cS/\f.lists=L from ⟨J▸hL▸q.o.ls,F▸hL▸q.o.li,hL⟩);have ar:=HL.o.1.1;unfold maxLen at ar;clear KA BF F6 q4 J F hL;go_wp2;clear q3;go_loopw [21] (λ i wr=>∃ (k:Nat) (o:List (ByteArray × Value)),i = bO bQ k/\k<=L.length/\Hid (aP wr m2 o/\Gp wr w.heap.size o (L.take k)/\o.length<=k)/\Hid (w6.grownBy wr (some m2))) (λ i _=>L.length+1 - (intOf i).toNat)
 case atStart=>exact⟨0,[],rfl,b7 _,qh ⟨M2.o,λ s=>rfl,b6 _⟩,qh (World.grownBy.refl _ _)⟩
 case round =>
  obtain⟨k,o,rfl,hk,y,O⟩:=hrel;have P:=P6.o.other O.o (by omega) (by omega) (by omega) (by omega);have g7:wr.cell? ⟨gb,7,none⟩=some (.map (some m2)):=P.blk.cell 7;have D:=KJ.grown O.o KJ.size (λ g e=>by injection e;omega);by_cases hlt:k<L.length
  case neg =>
   obtain rfl:k=L.length:=by omega
   have HP:=qh P;have H:=qh D;clear P D;go_wp2;go_ret;obtain⟨l1,l2,-⟩:=y.o;rw[cz] at l2;obtain⟨N1,N2⟩:=HP.o.nodes (show m3<_ by omega);obtain⟨jl,b1,b2,-⟩:=HP.o.by_;have U:=M3.o.kept O.o (λ e=>by injection e;omega);exact⟨⟨gb,m1,m2,m3,A6,c6,rfl,⟨HP.o.blk,⟨q.o.nm,q.o.la.keep H.o,q.o.ls.keep (λ _ _ h=>h.keep H.o) H.o,q.o.li,q.o.it.keep (λ _ _ h=>h.keep H.o) H.o,q.o.ii⟩,N1,N2,⟨jl,b1,b2⟩,⟨o,l1,HL.o.2.2.symm▸l2⟩,⟨[],U,λ s=>rfl⟩,⟨by omega,by omega,by omega,by omega,by omega,by omega,by omega⟩,H.o.size⟩,⟨[],U,λ s=>rfl,b6 _⟩⟩,H.o⟩
  obtain⟨ad,ci,rfl,an,ao,j⟩:=aB.at_ (aB.keep (λ _ _ h=>h.keep D) HL.o.1 D) hlt;obtain⟨A,c,rfl,ae,V,u⟩:=ao;have ac:=qh (show lZ wr w.heap.size L[k] (Lj L[k] A c) from ⟨A,c,rfl,ae,V,u⟩);have R:=qh (λ (w':World) (h:Gp w' w.heap.size o (L.take k)) (p:nU (L.take k) L[k].nm=none) (hl:lZ w' w.heap.size L[k] (Lj L[k] A c))=>aah h hlt p hl);have S:=qh (λ (w':World) (h:Gp w' w.heap.size o (L.take k)) (p:¬ nU (L.take k) L[k].nm=none)=>aai h hlt p);obtain⟨d,hd⟩:=af (L[k]);have aW:=qh hlt;rw[hd] at j u ac R S;obtain⟨p0,p1⟩:=H7 j;obtain⟨W,hW,uJ,BW⟩:=box wr 92 #[.string d.nm,.slice A d.os.length c];have ax:=D.trans (uJ.mono D.size);have r0:=BW.cell 0;have r1:=BW.cell 1;have g7:=Below.cell_of uJ g7;have X:=uJ.size;have v:=D.size;have av:wr.heap.size<W.heap.size:=BW.lt;have aE:gb<W.heap.size:=cf (cf n4 (b4 P6.o.le O.o.size)) X;clear j hd an ae V P;go_upto_region 6 with (fail);rw[<- hW];clear p0 p1 hW;have Z:=qh (y.o.1.below uJ y.o.1.lt);have b:=y.o.2.1 d.nm;have aD:=y.o.2.2;have m:=λ (w':World) (h:aP w' m2 o)=>h.look Tryz.underlying113 (Yl w') u;have ab:∀ cs,IY wr (W.alloc (.cells cs 92 (0,0))).drew:=λ cs=>uJ.trans ((az W _).drew.mono X);have n:=qh ab;have al:=qh (show o.length<maxLen by have:=aW.o;unfold maxLen;omega);clear ab;by_cases p:nU (L.take k) d.nm=none
  case neg =>
   obtain⟨l9,A9,c9,b⟩:∃ l A c,fK o d.nm=some (.agg (Lj l A c).toArray):=by
    cases hq:nU (L.take k) d.nm with
    | none=>exact absurd hq p
    | some l=>rw[hq] at b;obtain⟨A9,c9,e,-⟩:=b;exact⟨l,A9,c9,e⟩
   simp only[b,Option.getD_some,Option.isSome_some] at m;have B:=m W.drew (Z.o.same rfl);have t:=m (W.alloc (.cells #[bR ⟨#[]⟩,bS none 0 0] 92 (0,0))).drew ((Z.o.alloc _).same rfl);simp only[Lj] at B t;have HN:=qh p;clear m b p;go_region
   all_goals
    clear B t;go_wp2;go_roundw
    case rel=>exact⟨k+1,o,by go_num,aW.o,qh ⟨y.o.1.below (n.o _) y.o.1.lt,S.o _ (y.o.2.1.keep ((n.o _).mono v)) HN.o,by omega⟩,qh (mX O.o (grown_of (n.o _) _))⟩
    case measure =>
     have:=aW.o;simp[intOf];omega
  rw[p] at b;have b:fK o d.nm=none:=b;simp only[b,Option.getD_none,Option.isSome_none] at m;have B:=m W.drew (Z.o.same rfl);have t:=m (W.alloc (.cells #[bR ⟨#[]⟩,bS none 0 0] 92 (0,0))).drew ((Z.o.alloc _).same rfl);have HN:=qh p;clear m b p;go_region
  all_goals
   clear B t;obtain⟨W9,aw,am,z⟩:=(show aP (W.alloc (.cells #[.string ⟨#[]⟩,.slice none 0 0] 92 (0,0))).drew.drew m2 o from (Z.o.alloc _).same rfl).put Tryz.underlying113 al.o u (.agg #[.string d.nm,.slice A d.os.length c]);go_upto_region 8 with (fail);go_region;have ay:IY w W9:=(D.trans (((n.o _).drew).mono v)).grown z (by simp;omega) (λ g e=>by injection e;omega);go_wp2;go_roundw
   case rel=>exact⟨k+1,_,by go_num,aW.o,qh ⟨am,R.o _ (y.o.2.1.keep (((n.o _).drew.mono v).grown z (by simp;omega) (λ g e=>by injection e;omega))) HN.o (ac.o.keep (((n.o _).drew.mono v).grown z (by simp;omega) (λ g e=>by injection e;omega))),by simp;omega⟩,qh (mX O.o (mX (grown_of (n.o _).drew _) z))⟩
   case measure =>
    have:=aW.o;simp[intOf];omega
end Go.Proofs.YtcnagconagpkcaaGreatDoor
namespace Go.Proofs.YtcnagconagpkcaaGreatDoor
def MI (acc:List aj) (lo:List ByteArray):Prop:=lo = []\/∃ p:Nat,∃ h:p<acc.length,acc[p].it.k=3/\lo=acc[p].lo ++ [acc[p].it.nm]
def Ic (N:List aj):Prop:=∀ i (h:i<N.length),MI (N.take i) N[i].lo
theorem MI.more {a:List aj} {lo:List ByteArray} (h:MI a lo) (t:List aj):MI (a ++ t) lo:=by
 rcases h with h | ⟨p,b,c,d⟩
 .exact .inl h
 .exact .inr ⟨p,by rw[cb];omega,by rw[cr b];exact c,by rw[cr b];exact d⟩
theorem Ic.snoc {N:List aj} (h:Ic N) {d:aj} (b:MI N d.lo):Ic (N ++ [d]):=by
 intro i a;rw[cb] at a;by_cases hl:i<N.length
 .rw[cr hl,List.take_append_of_le_length (by omega)];exact h i hl
 .have:i=N.length:=by simp at a;omega
  subst this;simpa using b
mutual
theorem ItemD.afV:∀ (j:ItemD) (b:List aj) (c g f:Int) (d:List ByteArray),Ic b->MI b d->Ic (j.add b c g f d)/\∃ t,j.add b c g f d=b ++ t
 | .mk k nm iff ph items sh cnt over ans cmp,b,c,g,f,d,h,h1=>by
  rw[ItemD.add];have l:Ic (b ++ [⟨.mk k nm iff ph items sh cnt over ans cmp,c,g,f,d⟩]):=h.snoc h1;have i:MI (b ++ [⟨.mk k nm iff ph items sh cnt over ans cmp,c,g,f,d⟩]) (if k=3 then d ++ [nm] else d):=by
   by_cases hk:k=3
   .rw[if_pos hk];exact .inr ⟨b.length,by simp,by simpa [ItemD.k] using hk,by simp[ItemD.nm]⟩
   .rw[if_neg hk];exact h1.more _
  obtain⟨a,t,e⟩:=MJ items _ b.length 0 (f+1) _ l i;exact⟨a,_ :: t,by rw[e,cA];rfl⟩
theorem MJ:∀ (l:List ItemD) (b:List aj) (c f g:Int) (d:List ByteArray),Ic b->MI b d->Ic (kW l b c f g d)/\∃ t,kW l b c f g d=b ++ t
 | [],b,_,_,_,_,h,_=>by rw[kW];exact⟨h,[],by simp⟩
 | it :: r,b,c,f,g,d,h,h1=>by
  rw[kW];split
  .exact⟨h,[],by simp⟩
  .obtain⟨a,t,e⟩:=ItemD.afV it b c f g d h h1;obtain⟨i,k,j⟩:=MJ r (it.add b c f g d) c (f+1) g d a (e▸h1.more t);exact⟨i,t ++ k,by rw[j,e,cA]⟩
end
theorem aaj (f:bC):Ic (aK f):=(MJ f.items [] (-1) 0 1 [] (λ i h=>by simp at h) (.inl rfl)).1
theorem PX {N:List aj} {L:List fD}:∀ (f n:Nat),N.length<n+f->xm N L f n=0->∀ i,n<=i->i<N.length->qF N L i=0
 | 0,n,h,_,i,h1,h2=>by omega
 | f+1,n,h,h0,i,h1,h2=>by
  rw[xm,if_pos (by omega)] at h0;by_cases hs:qF N L n=0
  .rw[if_neg (λ h=>h hs)] at h0;by_cases e:i=n
   .rw[e];exact hs
   .exact PX f (n+1) (by omega) h0 i (by omega) h2
  .rw[if_pos hs] at h0;exact absurd h0 hs
structure MK (N:List aj):Prop where
 nm:∀ d∈N,aV d.it.nm.data.toList=true
 one:∀ i j (h:i<N.length) (h':j<i),N[j].it.nm≠N[i].it.nm
 ak:∀ d∈N,d.it.k=4->2<=d.it.ans.k/\d.it.ans.k<=6
 cm:∀ d∈N,d.it.k=5->d.it.cmp.length=1
 cm':∀ d∈N,¬ d.it.k=5->d.it.cmp = []
 len:N.length<=300
theorem PY {N:List aj} {L:List fD} (h:jZ N L=0):MK N:=by
 unfold jZ at h;by_cases hz:DZ N=0
 case neg=>rw[if_pos hz] at h;exact absurd h hz
 rw[if_neg (λ h=>h hz)] at h;have l:=PX (N:=N) (L:=L) (N.length+1) 0 (by omega) h;have key:∀ i (a:i<N.length),aV N[i].it.nm.data.toList=true/\(∀ j (f:j<i),N[j].it.nm≠N[i].it.nm)/\(N[i].it.k=4->2<=N[i].it.ans.k/\N[i].it.ans.k<=6)/\yM N[i].it=false:=by
  intro i a;have:=l i (b7 _) a;unfold qF at this;rw[jy a] at this;dsimp only at this;split at this
  .exact absurd this (by decide)
  split at this
  .exact absurd this (by decide)
  split at this
  .exact absurd this (by decide)
  split at this
  .exact absurd this (by decide)
  split at this
  .exact absurd this (by decide)
  rename_i p q k m o;refine⟨by cases hq:aV N[i].it.nm.data.toList <;> simp_all,λ j n e=>k (cc.2 ⟨N[j],?_,by simpa using e⟩),λ g=>?_,by cases hq:yM N[i].it <;> simp_all⟩
  .rw[List.mem_take_iff_getElem];exact⟨j,by omega,rfl⟩
  .rw[if_pos g] at this;unfold Oi at this;split at this
   .exact absurd this (by decide)
   .rename_i b1;unfold aN at b1;simp at b1;omega
 refine⟨λ d b=>?_,λ i j h f=>(key i h).2.1 j f,λ d b=>?_,λ d b c=>?_,λ d b c=>?_,?_⟩
 .obtain⟨i,a,rfl⟩:=ce.1 b;exact (key i a).1
 .obtain⟨i,a,rfl⟩:=ce.1 b;exact (key i a).2.2.1
 .obtain⟨i,a,rfl⟩:=ce.1 b;have:=(key i a).2.2.2;unfold yM at this;simp[c] at this;omega
 .obtain⟨i,a,rfl⟩:=ce.1 b;have:=(key i a).2.2.2;unfold yM at this;simp[c] at this;exact List.length_eq_zero_iff.1 (by simp[this])
 .unfold DZ at hz;split at hz
  .exact absurd hz (by decide)
  .omega
theorem aak {f:bC} (h:eu f=0):jZ (aK f) f.lists=0/\sJ (aK f) f.lists f.bD.length ((aK f).length+1) 0 []=(0,(ku f).2):=by
 unfold eu at h;have e:ku f=(0,(ku f).2):=by rw[<- h]
 generalize b:(ku f).2=K at e ⊢;unfold ku at e;split at e
 .rename_i a;exact absurd (congrArg Prod.fst e) a
 split at e
 .rename_i a;exact absurd (congrArg Prod.fst e) a
 split at e
 .rename_i a;exact absurd (congrArg Prod.fst e) a
 .rename_i a;exact⟨cj.1 a,e⟩
theorem Ie (K:bu) (a b:ByteArray) (v:Int):kK ((a,v) :: K) b=if a=b then v else kK K b:=by
 unfold kK;rw[cu];by_cases e:a=b
 .simp[e]
 .simp[e]
theorem PZ {N:List aj} {L:List fD} {K:bu} {g n:Nat} (o:MK N) (m:n<N.length) (h:(oP N L K g n).1=0) :
  (∀ e∈N[n].it.iff ++ N[n].it.cmp,(bT N K n [] e).2=0)/\(∀ nm,nm≠N[n].it.nm->kK (oP N L K g n).2 nm=kK K nm)/\(N[n].it.k=5->∃ e,(bT N K n [] e).2=0/\kK (oP N L K g n).2 N[n].it.nm=(bT N K n [] e).1):=by
 have j:∀ {F:Ex->Int × Int} {k:Int} {l:List Ex},dM F k l=0->∀ e∈l,(F e).2=0:=by
  intro F k l
  induction l with
  | nil=>intro _ e c;cases c
  | cons a r ih =>
   intro f e c;rw[dM] at f;split at f
   .rename_i b;exact absurd f b
   .rename_i b;split at f
    .exact absurd f (by decide)
    .rcases cq.1 c with rfl | c
     .exact cj.1 b
     .exact ih f e c
 unfold oP at h ⊢;rw[jy m] at h ⊢;dsimp only at h ⊢;by_cases b:dM (bT N K n []) 7 N[n].it.iff=0
 case neg=>rw[if_pos b] at h;exact absurd h b
 rw[if_neg (λ q=>q b)] at h ⊢;have p:=j b;by_cases h2:rM (bT N K n (dA N K n)) g true N[n].it.ph=0
 case neg=>rw[if_pos h2] at h;exact absurd h h2
 rw[if_neg (λ q=>q h2)] at h ⊢;by_cases h5:N[n].it.k=5
 .rw[if_neg (by omega),if_neg (by omega),if_pos h5] at h ⊢;have t:=o.cm _ (b9 m) h5;obtain⟨e,c⟩:=cv.1 t;rw[c] at h ⊢;dsimp only at h ⊢;refine⟨λ a d=>?_,λ nm i=>?_,λ _=>⟨e,h,?_⟩⟩
  .rcases cp.1 d with d | d
   .exact p a d
   .rw[ca] at d;rw[d];exact h
  .rw[Ie,if_neg (λ q=>i q.symm)]
  .rw[Ie,if_pos rfl]
 .have s:=o.cm' _ (b9 m) h5;rw[s,cB];refine⟨p,λ nm _=>?_,λ q=>absurd q h5⟩;split
  .rfl
  split
  .rfl
  .rfl
theorem P7 {N:List aj} {L:List fD} {m:Nat} {c:bu} (l:MK N):∀ (f n:Nat) (K:bu),N.length<n+f->sJ N L m f n K=(0,c) ->
  (∀ j (h:j<N.length),j<n->kK c N[j].it.nm=kK K N[j].it.nm) /\
  ∀ i (h:i<N.length),n<=i->∃ g,(∀ j (v:j<i),kK g N[j].it.nm=kK c N[j].it.nm)/\(∀ e∈N[i].it.iff ++ N[i].it.cmp,(bT N g i [] e).2=0)/\(N[i].it.k=5->∃ e,(bT N g i [] e).2=0/\kK c N[i].it.nm=(bT N g i [] e).1)
 | 0,n,K,h,_=>⟨λ j d b=>by
   rename_i a;rw[sJ] at a;rw[<- (Prod.mk.inj a).2],λ i k b=>by omega⟩
 | f+1,n,K,h,a=>by
  rw[sJ] at a;by_cases hn:n<N.length
  case neg =>
   rw[if_neg hn] at a;exact⟨λ j d b=>by rw[<- (Prod.mk.inj a).2],λ i k b=>by omega⟩
  rw[if_pos hn] at a;by_cases hm:(oP N L K m n).1=0
  case neg=>rw[if_pos hm] at a;exact absurd (congrArg Prod.fst a) hm
  rw[if_neg (λ q=>q hm)] at a;obtain⟨A,B⟩:=P7 l f (n+1) _ (by omega) a;obtain⟨u,o,r⟩:=PZ l hn hm;have A':∀ j (h:j<N.length),j<n->kK c N[j].it.nm=kK K N[j].it.nm:=λ j d b=>by
   rw[A j d (by omega),o _ (l.one n j hn b)]
  refine⟨A',λ i k b=>?_⟩;by_cases e:i=n
  .subst e;refine⟨K,λ j d=>(A' j (by omega) d).symm,u,λ t=>?_⟩;obtain⟨x,p,s⟩:=r t;exact⟨x,p,by rw[A i k (by omega),s]⟩
  .exact B i k (by omega)
theorem xO {α:Type} (f:List α->α->Int):∀ (l:List α) (c:List α) (a:α),aU f c l=0->f (c ++ l) a=0->aU f c (l ++ [a])=0
 | [],c,a,_,h=>by rw[ct,aU,if_neg (by simpa using h)];rfl
 | b :: r,c,a,h0,h=>by
  rw[aU] at h0;split at h0
  .rename_i d;exact absurd h0 d
  .rename_i d;rw[List.cons_append,aU,if_neg d];exact xO f r _ a h0 (by simpa using h)
theorem Su {N:List aj} {k:Nat} (a:k<N.length):bY (N.take (k+1))=if N[k].it.k=3 then bY (N.take k) ++ [⟨N[k].it.nm,N[k].lo⟩] else bY (N.take k):=by
 unfold bY;rw[cx a,cC,cD];by_cases h:N[k].it.k=3 <;> simp[h]
theorem J6 {N:List aj} {d:aQ} (h:d∈bY N):∃ p:Nat,∃ a:p<N.length,N[p].it.k=3/\d=⟨N[p].it.nm,N[p].lo⟩:=by
 unfold bY at h;obtain⟨x,e,rfl⟩:=ck.1 h;obtain⟨b,c⟩:=co.1 e;obtain⟨p,a,rfl⟩:=ce.1 b;exact⟨p,a,by simpa using c,rfl⟩
theorem aal {N:List aj} {p:Nat} (a:p<N.length) (h:N[p].it.k=3):(⟨N[p].it.nm,N[p].lo⟩:aQ)∈bY N:=
 ck.2 ⟨N[p],co.2 ⟨b9 a,by simpa using h⟩,rfl⟩
theorem J7 {N:List aj} {a:List ByteArray} (h:MI N a):dF (bY N) a=true:=by
 rcases h with rfl | ⟨p,c,b,rfl⟩
 .rfl
 .unfold dF;rw[List.getLast?_concat,List.dropLast_concat];exact cc.2 ⟨_,aal c b,by simp⟩
theorem Ef {N:List aj} (a:MK N) (c:Ic N):∀ k,k<=N.length->aU aJ [] (bY (N.take k))=0
 | 0,_=>rfl
 | k+1,hk=>by
  have e:=Ef a c k (by omega);rw[Su (show k<N.length by omega)];split
  .rename_i i;refine xO _ _ _ _ e ?_;unfold aJ;rw[ct,a.nm _ (b9 _),if_neg (by decide),if_neg,J7 (c k (by omega)),if_neg (by decide)];intro h;obtain⟨d,f,b⟩:=cc.1 h;obtain⟨p,g,-,rfl⟩:=J6 f;rw[List.length_take] at g;rw[List.getElem_take] at b;exact a.one k p (by omega) (by omega) (of_decide_eq_true b)
  .exact e
theorem Sv {N:List aj} {K:bu} {keep:Nat->Bool} {k:Nat} (a:k<N.length):di N K keep (k+1)=if (vT N[k] && keep k)=true then di N K keep k ++ [lh K N[k]] else di N K keep k:=by
 unfold di;rw[List.range_succ,cC,cD];have e:ny N (k:Int)=N[k]:=jy a;by_cases h:(vT N[k] && keep k)=true
 .simp[e,h]
 .simp[e,h]
theorem oH {N:List aj} {K:bu} {keep:Nat->Bool} {k:Nat} (f:k<=N.length) {c:aG} (h:c∈di N K keep k):∃ p:Nat,∃ b:p<N.length,p<k/\vT N[p]=true/\keep p=true/\c=lh K N[p]:=by
 unfold di at h;obtain⟨x,e,rfl⟩:=ck.1 h;obtain⟨d,a⟩:=co.1 e;have b:x<k:=cE.1 d;rw[jy (show x<N.length by omega)] at a ⊢;simp at a;exact⟨x,by omega,b,a.1,a.2,rfl⟩
theorem aam {N:List aj} {K:bu} {keep:Nat->Bool} {k p:Nat} (d:k<=N.length) (c:p<k) (a:vT (N[p]'(by omega))=true) (b:keep p=true):lh K (N[p]'(by omega))∈di N K keep k:=by
 unfold di;have e:ny N (p:Int)=N[p]'(by omega):=jy (by omega);exact ck.2 ⟨p,co.2 ⟨cE.2 c,by rw[e,a,b];rfl⟩,by rw[e]⟩
def afW (N:List aj) (K:bu):Prop:=∀ i (h:i<N.length),N[i].it.k=5->2<=kK K N[i].it.nm/\kK K N[i].it.nm<=7
theorem Eg {N:List aj} {K:bu} (a:MK N) (e:afW N K):∀ k,k<=N.length->aU aH [] (di N K (λ _=>true) k)=0
 | 0,_=>rfl
 | k+1,hk=>by
  have g:=Eg a e k (by omega);rw[Sv (show k<N.length by omega)];split
  .rename_i f;refine xO _ _ _ _ g ?_;unfold aH;rw[ct,show (lh K N[k]).nm=N[k].it.nm from rfl,a.nm _ (b9 _),if_neg (by decide),if_neg,show (lh K N[k]).kind=Gl K N[k] from rfl,if_neg]
   .unfold Gl aN;simp[vT] at f;split
    .rename_i c;have:=a.ak _ (b9 _) c;simp;omega
    .rename_i c;have:=e k (by omega) (f.resolve_left c);simp;omega
   .intro j;obtain⟨d,h,i⟩:=cc.1 j;obtain⟨p,l,b,-,-,rfl⟩:=oH (by omega) h;exact a.one k p (by omega) b (of_decide_eq_true i)
  .exact g
theorem Wq {C i:List aG} {L:List aQ} (h:∀ nm at_ c,C.find? (λ c=>decide (c.nm=nm) && eX c.loops at_)=some c->i.find? (λ c=>decide (c.nm=nm) && eX c.loops at_)=some c) (e:Ex):∀ at_,(e.kind C L at_).2=0->e.kind i L at_=e.kind C L at_:=by
 induction e using Ex.ind with
 | h e ih =>
  intro at_ d;have key:∀ (ar:List Ex) (at_:List ByteArray) (ks:List Int),(∀ a∈ar,∀ at_,(a.kind C L at_).2=0->a.kind i L at_=a.kind C L at_)->(bW C L ar at_ ks).1=0->bW i L ar at_ ks=bW C L ar at_ ks:=by
   intro ar
   induction ar with
   | nil=>intro _ _ _ _;rw[bW,bW]
   | cons a r ih2 =>
    intro at_ ks j g;rw[bW] at g;rw[bW,bW];by_cases f:(a.kind C L at_).2=0
    .rw[if_neg (λ q=>q f)] at g;rw[j a (cF ..) at_ f,if_neg (λ q=>q f),if_neg (λ q=>q f)];exact ih2 at_ _ (λ b k=>j b (List.mem_cons_of_mem _ k)) g
    .rw[if_pos f] at g;exact absurd g f
  rw[jX] at d;rw[jX i,jX C];by_cases k1:e.k=1
  .rw[if_pos k1,if_pos k1]
  rw[if_neg k1] at d;rw[if_neg k1,if_neg k1];by_cases k2:e.k=2
  .rw[if_pos k2] at d;rw[if_pos k2,if_pos k2];unfold wV at d ⊢;cases hc:C.find? (λ c=>decide (c.nm=e.nm) && eX c.loops at_) with
   | none=>rw[hc] at d;exact absurd d (by decide)
   | some c=>rw[h _ _ _ hc]
  rw[if_neg k2] at d;rw[if_neg k2,if_neg k2];by_cases k3:e.k=3
  .rw[if_pos k3,if_pos k3]
  rw[if_neg k3] at d;rw[if_neg k3,if_neg k3];by_cases k5:e.k=5
  .rw[if_pos k5] at d;rw[if_pos k5,if_pos k5];cases hn:vK L e.nm at_ with
   | none=>rfl
   | some at' =>
    rw[hn] at d;dsimp only at d ⊢
    match hr:e.ar with
    | []=>rw[qV,qV]
    | a :: r =>
     rw[hr,qV] at d;rw[qV,qV];by_cases f:(a.kind C L at').2=0
     .rw[ih a (by rw[hr];exact cF ..) at' f]
     .rw[if_pos f] at d;exact absurd d f
  rw[if_neg k5] at d;rw[if_neg k5,if_neg k5];by_cases g:(bW C L e.ar at_ []).1=0
  .rw[key e.ar at_ [] (λ a f=>ih a f) g]
  .rw[if_pos g] at d;exact absurd d g
theorem Wu {N:List aj} {K:bu} (d:MK N) (e:Ic N) (i:afW N K):bJ (di N K (λ _=>true) N.length) (bY N)=0:=by
 have f:=Ef d e N.length (b6 _);rw[cz] at f;unfold bJ;rw[Eg d i N.length (b6 _),f,if_neg (by decide),if_neg (by decide),if_neg];intro h;obtain⟨c,g,a⟩:=cc.1 h;obtain⟨p,j,-,-,-,rfl⟩:=oH (b6 _) g;have b:=(e p j).more (N.drop p);rw[List.take_append_drop] at b;rw[show (lh K N[p]).loops=N[p].lo from rfl,J7 b] at a;exact absurd a (by decide)
theorem Ig {N:List aj} {K:bu} {n:Int} {e:Ex} (h:(bT N K n [] e).2=0):dh e=0/\dF (bY N) (ny N n).lo=true/\bJ (kL N K n) (bY N)=0/\(e.kind (kL N K n) (bY N) (ny N n).lo).2=0/\bT N K n [] e=e.kind (kL N K n) (bY N) (ny N n).lo:=by
 unfold bT at h ⊢;split at h
 .rename_i c;exact absurd h c
 rename_i c;rw[if_neg c];split at h
 .rename_i d;exact absurd h d
 rename_i d;rw[if_neg d];rw[cB] at h ⊢;unfold Jy at h ⊢;split at h
 .rename_i a;exact absurd h a
 rename_i a;rw[if_neg a];split at h
 .rename_i b;exact absurd h b
 rename_i b;rw[if_neg b];split at h
 .exact absurd h (by decide)
 rename_i f;rw[if_neg f];exact⟨cj.1 a,by simpa using f,cj.1 b,h,rfl⟩
theorem cells_one {N:List aj} {K:bu} (a:MK N) {c c':aG} (h:c∈di N K (λ _=>true) N.length) (b:c'∈di N K (λ _=>true) N.length) (e:c.nm=c'.nm):c=c':=by
 obtain⟨p,f,-,-,-,rfl⟩:=oH (b6 _) h;obtain⟨q,d,-,-,-,rfl⟩:=oH (b6 _) b;have e:N[p].it.nm=N[q].it.nm:=e;rcases Nat.lt_trichotomy p q with l | l | l
 .exact absurd e (a.one q p d l)
 .subst l;rfl
 .exact absurd e.symm (a.one p q f l)
theorem acT {N:List aj} (c:MK N) {i:Nat} (a:i<N.length):jI N N[i].it.nm=i:=by
 unfold jI;have:N.findIdx? (λ d=>decide (d.it.nm=N[i].it.nm))=some i:=by
  rw[List.findIdx?_eq_some_iff_getElem];exact⟨a,by simp,λ j b=>by simpa using c.one i j a b⟩
 rw[this]
structure acU (N:List aj) (K:bu):Prop where
 aou:jH (di N K (λ _=>true) N.length) (bY N) [] []=0
 find:∀ c∈di N K (λ _=>true) N.length,∃ i:Nat,∃ h:i<N.length,jI N c.nm=i/\c.loops=N[i].lo /\
  ∀ e∈N[i].it.iff ++ N[i].it.cmp,(Jy e (di N K (λ _=>true) N.length) (bY N) c.loops).2=0
theorem aan {f:bC} (h:eu f=0):acU (aK f) (ku f).2:=by
 obtain⟨H,x⟩:=aak h;have o:=PY H;have D:=aaj f;generalize (ku f).2=K at x ⊢;generalize aK f=N at *;have C:=(P7 o (N.length+1) 0 [] (by omega) x).2;have q:∀ i (l:i<N.length) a,(∀ j (J:j<i),kK a N[j].it.nm=kK K N[j].it.nm)->∀ c∈kL N a i,c∈di N K (λ _=>true) N.length:=by
  intro i l a v c k;obtain⟨p,d,-,B,u,rfl⟩:=oH (b6 _) k;have s:p<i:=by unfold je at u;simp at u;exact u.1
  have e:lh a N[p]=lh K N[p]:=by unfold lh Gl;rw[v p s]
  rw[e];exact aam (b6 _) d B rfl
 have b:∀ i (l:i<N.length) a,(∀ j (J:j<i),kK a N[j].it.nm=kK K N[j].it.nm)->∀ (e:Ex) at_,(e.kind (kL N a i) (bY N) at_).2=0->e.kind (di N K (λ _=>true) N.length) (bY N) at_=e.kind (kL N a i) (bY N) at_:=by
  intro i l a v e at_;refine Wq (λ nm at_ c k=>?_) e at_;have m:=q i l a v c (cG k);have g:=cH k;cases hf:(di N K (λ _=>true) N.length).find? (λ c=>decide (c.nm=nm) && eX c.loops at_) with
  | none=>exact absurd g (by simpa using List.find?_eq_none.1 hf c m)
  | some c' =>
   have z:=cH hf;simp only[Bool.and_eq_true,decide_eq_true_eq] at z g;rw[cells_one o (cG hf) m (z.1.trans g.1.symm)]
 have F:afW N K:=by
  intro i l L;obtain⟨a,m1,m2,m3⟩:=C i l (b7 _);obtain⟨e,E,I⟩:=m3 L;obtain⟨r,t,y,n,w⟩:=Ig E;rw[I,w];exact SS (XH y) e (uo r) _ n
 have A:=Wu o D F;refine⟨?_,λ c k=>?_⟩
 .unfold jH;rw[A];rfl
 .obtain⟨p,d,-,B,-,rfl⟩:=oH (b6 _) k;refine⟨p,d,acT o d,rfl,λ e G=>?_⟩;obtain⟨a,m1,m2,-⟩:=C p d (b7 _);obtain⟨r,t,y,n,w⟩:=Ig (m2 e G);rw[jy d] at t n;unfold Jy;rw[r,A,show (lh K N[p]).loops=N[p].lo from rfl,t,b p d a m1 e _ n,if_neg (by decide),if_neg (by decide),if_neg (by decide)];exact n
end Go.Proofs.YtcnagconagpkcaaGreatDoor
