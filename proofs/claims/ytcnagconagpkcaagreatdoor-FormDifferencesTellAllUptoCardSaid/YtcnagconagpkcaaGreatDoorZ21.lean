/- Lemmas. -/
import Derived.Test.YtcnagconagpkcaaGreatDoorZ20
import Derived.Deep.RegionLaw
open Go.Value renaming int->bN, string->bR, slice->bS, pointer->bX, slice->cg
open Go.IntKind renaming i64->bO
open Go.Ending renaming returned->b0
open Nat renaming le_trans->b4, le_refl->ca, zero_le->cc, lt_of_lt_of_le->ce
open And renaming intro->b5
open List renaming length_append->cb, mem_singleton->cf, mem_iff_getElem->cj, getElem_mem->ck, getElem_append_left->co, length_singleton->cp, mem_append->cq, mem_cons->cr
namespace Go.Proofs.YtcnagconagpkcaaGreatDoor
open Go.RowKit
attribute [local go_sem ↓] Go.wp_at_zero Go.wp_at_succ
attribute [local go_sem ↓] ld_item st_item ld_node st_node ld_ans st_ans ld_part st_part ld_rule st_rule ld_form st_form
set_option maxHeartbeats 4000000
set_option maxRecDepth 100000
theorem grown_of {w w':World} (a:EG w w') (r:Option Nat):w.grownBy w' r:=⟨a.os,a.tape,a.output,a.size,λ i b _=>a.block i b⟩
theorem mO {a w w':World} {row:Option Nat} (h:a.grownBy w row) (k:w.grownBy w' row):a.grownBy w' row:=
 ⟨k.os.trans h.os,k.tape.trans h.tape,k.output.trans h.output,b4 h.size k.size,λ i b c=>(k.block i (ce b h.size) c).trans (h.block i b c)⟩
theorem DD {w w':World} {B size n m:Nat} {A:Option Addr} {cs:List Value} (h:Reads w B size A n cs) (g:w.grownBy w' (some m)) (f:∀ ad,A=some ad->ad.block≠m):Reads w' B size A n cs:=by
 refine⟨h.1,λ a=>?_⟩;obtain⟨ad,e,c,b⟩:=h.2 a;refine⟨ad,e,c,λ j u d=>g.cell (b j u d) (λ q=>?_)⟩;injection q with q;rw[iW] at q;exact f ad e q
def Aj (w:World) (m:Nat) (K:aV) (n:Nat):Prop:=∃ kv,aS w m kv/\abr kv K/\kv.length<=n
theorem Aj.keep {w w':World} {m n:Nat} {K:aV} (h:Aj w m K n) (d:EG w w'):Aj w' m K n:=by
 obtain⟨b,a,c⟩:=h;exact⟨b,a.below d a.lt,c⟩
theorem Aj.up {w:World} {m n:Nat} {K:aV} (h:Aj w m K n):Aj w m K (n+1):=by
 obtain⟨a,b,c,d⟩:=h;exact⟨a,b,c,by omega⟩
theorem aJ.put {w:World} {B0 gb m1 m2 m3:Nat} {x:ku} {f:aG} {N:List ah} {K:aV} (h:aJ w B0 gb m1 m2 m3 x f N K) {w':World} {n:Nat} {K':aV} (a:w.grownBy w' (some m3)) (d:Aj w' m3 K' n):aJ w' B0 gb m1 m2 m3 x f N K':=by
 obtain⟨z,F,b1⟩:=h.Qh;obtain⟨l,B,b2⟩:=h.ls;obtain⟨E,r,b3,-⟩:=d;obtain⟨H,L,J,I,m,u,q⟩:=h.ne;have b:Below B0 w w':=tN a h.le (λ k d=>by injection d with d;omega);refine⟨h.blk.grown a (λ e=>q (by injection e)),h.form.keep b,?_,h.cap,⟨z,F.kept a (λ e=>m (by injection e)),b1⟩,⟨l,B.kept a (λ e=>u (by injection e)),b2.keep b⟩,⟨E,r,b3⟩,h.ne,b4 h.le a.size⟩;obtain⟨s,j,cs,D,C⟩:=h.nodes;refine⟨s,j,cs,(DD D a j).more a.size,λ i o=>?_⟩;obtain⟨G,A,c,e,p,⟨t,v⟩,y,g⟩:=C i o;exact⟨G,A,c,e,p.keep b,⟨(DD t a g).more a.size,v⟩,y,g⟩
theorem ZE {a:List (ByteArray × Value)} {K:aV} (h:abr a K) (s:ByteArray) (k:Int):abr ((s,bN bO k) :: a) ((s,k) :: K):=by
 intro t;rw[gz,List.find?_cons];by_cases e:s=t
 .simp[e]
 .simp only[e,if_false,decide_false];exact h t
theorem OW {w:World} {B0 gb m1 m2 m3:Nat} {x:ku} {f:aG} {N:List ah} {K:aV} (h:aJ w B0 gb m1 m2 m3 x f N K) {E:Nat} (aa:w.cell? ⟨E,0,none⟩=some (bX (some ⟨gb,0,none⟩))) (av:E<w.heap.size) (hN:eH N) {n j:Nat} (M:n<N.length) (hj:j<=1000) (al:Aj w m3 K j) (T:∀ e∈N[n].it.iff,e.parts<=1000000) (am:∀ e∈N[n].it.cnt,e.parts<=1000000) (X:∀ e∈N[n].it.cmp,e.parts<=1000000) (wQ:∀ e∈N[n].it.ans.only,e.parts<=1000000) (xX:∀ r∈N[n].it.ans.ch,r.must.parts<=1000000) (O:N[n].it.k=5->N[n].it.cmp.length=1) (I:Tab w) (ao:Mx w) :
  Calls Tryz.prog 74 #[bX (some ⟨E,0,none⟩),bN bO n] w λ e w'=>e = b0 (bN bO (vz N f.lists K f.aA.length n).1)/\aJ w' B0 gb m1 m2 m3 x f N (vz N f.lists K f.aA.length n).2/\Aj w' m3 (vz N f.lists K f.aA.length n).2 (j+1)/\w.grownBy w' (some m3):=by
 have J:=h.le;have aR:=h.cap;have su:=h.nodes.1;obtain⟨ad,A1,c1,A2,c2,A3,c3,A4,c4,A5,c5,B1,b1,B2,b2,B3,b3,W,cs,cX,aA,ap,z,BW,g,hit⟩:=h.itm M;obtain⟨d,hd⟩:=af (N[n].it);rw[hd] at g hit T X O;have F:au aQ 8 w B0 A1 d.iff:=by subst g;cases hit;assumption
 have VS:nP w B0 A2 c2 d.ph:=by subst g;cases hit;assumption
 have G:au aQ 8 w B0 A5 d.cmp:=by subst g;cases hit;assumption
 have aq:d.nm.size<=maxLen:=by subst g;cases hit;assumption
 have q0:W.cell? ⟨w.heap.size,0,none⟩=some (bN bO d.k):=by rw[BW.cell 0];subst g;rfl
 have q1:W.cell? ⟨w.heap.size,1,none⟩=some (bR d.nm):=by rw[BW.cell 1];subst g;rfl
 have q2:W.cell? ⟨w.heap.size,2,none⟩=some (bS A1 d.iff.length c1):=by rw[BW.cell 2];subst g;rfl
 have q3:W.cell? ⟨w.heap.size,3,none⟩=some (bS A2 d.ph.length c2):=by rw[BW.cell 3];subst g;rfl
 have ac:W.cell? ⟨w.heap.size,18,none⟩=some (bS A5 d.cmp.length c5):=by rw[BW.cell 18];subst g;rfl
 have U:=qh (show ∀ w',EG W w'->aJ w' B0 gb m1 m2 m3 x f N K/\w'.cell? ⟨E,0,none⟩=some (bX (some ⟨gb,0,none⟩))/\E<w'.heap.size/\Tab w'/\Mx w'/\Aj w' m3 K j/\w.grownBy w' (some m3)/\EG w w'/\w'.cell? ⟨w.heap.size,0,none⟩=some (bN bO d.k)/\w'.cell? ⟨w.heap.size,1,none⟩=some (bR d.nm)/\w'.cell? ⟨w.heap.size,3,none⟩=some (bS A2 d.ph.length c2)/\w'.cell? ⟨w.heap.size,18,none⟩=some (bS A5 d.cmp.length c5) from λ w' hb=>by
  have q:=z.trans (hb.mono z.size);exact⟨h.keep q,Below.cell_of q aa,ce av q.size,aF I q,ao.below q,al.keep q,grown_of q _,q,Below.cell_of hb q0,Below.cell_of hb q1,Below.cell_of hb q3,Below.cell_of hb ac⟩)
 have HP:=qh (b5 am (b5 wQ xX));obtain⟨R,hR⟩:=af (vz N f.lists K f.aA.length n);have k:=qh (show R=if eG (bU N K n []) 7 d.iff≠0 then (eG (bU N K n []) 7 d.iff,K) else
  if rZ (bU N K n (cZ N K n)) f.aA.length true d.ph≠0 then (rZ (bU N K n (cZ N K n)) f.aA.length true d.ph,K) else
  if d.k=3 then (IL N f.lists K n,K) else if d.k=4 then (BV N K f.aA.length n,K) else
  if d.k=5 then (match d.cmp with
   | []=>(0,K)
   | e :: _=>((bU N K n [] e).2,(d.nm,(bU N K n [] e).1) :: K)) else (0,K) by rw[<- hR];unfold vz;rw[iY M,hd];rfl)
 rw[hR];obtain⟨b1,b2,b3,s,t,-,-,b8,-,-,-,-⟩:=U.o W (Below.refl _ _);obtain⟨r1,P⟩:=af (eG (bU N K n []) 7 d.iff);have K1:=qh (show Calls Tryz.prog 117 #[bX (some ⟨E,0,none⟩),bS A1 d.iff.length c1,bN bO n,bS none 0 0] W _ from P▸I9 b1 b2 b3 hN (AM:=none) (cm:=0) (c:=c1) (more:=[]) ⟨by decide,[],Reads.none_,λ i hi=>by cases hi⟩ (.inl ⟨rfl,rfl,rfl⟩) (F.keep (λ _ _ h=>h.keep (z.mono J)) (z.mono J)) (b4 J z.size) M T s t);obtain⟨r2,S⟩:=af (rZ (bU N K n (cZ N K n)) f.aA.length true d.ph);have K2:=qh (show ∀ w',EG W w'->Calls Tryz.prog 112 #[bX (some ⟨E,0,none⟩),bS A2 d.ph.length c2,bN bO n,.bool true] w' λ e aw=>e = b0 (bN bO r2)/\EG w' aw from λ w' hq=>by
  obtain⟨b1,b2,b3,s,t,-,-,b8,-⟩:=U.o w' hq;exact S▸zf b1 b2 b3 hN (VS.keep (b8.mono J)) (b4 J b8.size) (λ _=>⟨n,rfl,M,rfl⟩) s t)
 rw[P,S] at k;have ak:=qh (b5 O (b5 G X));have a0:=h.ne;clear h F VS G T am X wQ xX O I ao hR P S g hit BW hd al b1 b3 s t b8;go_enter Tryz.func74,Tryz.ntmps74;go_upto_region 2 with (fail);clear aA ap cX aa;by_cases h0:r1=0
 case' pos =>
  have k:=qh (k.o.trans (if_neg (λ h=>h h0)));obtain⟨g0,ar⟩:=jf h0
 case' neg =>
  have B:=qh (k.o.trans (if_pos h0));obtain⟨g0,ar⟩:=gp h0
 all_goals
  clear h0;go_upto_region 3 with (go_at_call 117;(with_reducible refine K1.o.mono ?_);rintro e1 w1 ⟨rfl,D⟩);obtain⟨b1,b2,b3,s,t,y,b,b8,V,Q,H,p⟩:=U.o w1 D;clear q0 q1 q2 q3 ac
 .clear V Q H p;go_wp2;go_ret;rw[B.o];exact⟨rfl,b1,y.up,b⟩
 have KP:=qh (K2.o w1 D);clear K1 K2 b1 b3 s t y b b8;by_cases h0:r2=0
 case' pos =>
  have k:=qh (k.o.trans (if_neg (λ h=>h h0)));obtain⟨g2,ax⟩:=jf h0
 case' neg =>
  have B:=qh (k.o.trans (if_pos h0));obtain⟨g2,ax⟩:=gp h0
 all_goals
  clear h0;go_upto_region 6 with (go_at_call 112;(with_reducible refine KP.o.mono ?_);rintro e2 w2 ⟨rfl,o⟩);have o:=D.trans (o.mono D.size);clear b2 V Q H p;obtain⟨b1,b2,b3,s,t,y,b,b8,V,Q,H,p⟩:=U.o w2 o
 .clear V Q H p;go_wp2;go_ret;rw[B.o];exact⟨rfl,b1,y.up,b⟩
 by_cases h3:d.k=3
 .have B:=qh (k.o.trans (if_pos h3));obtain⟨g3,aE⟩:=jf h3;have L:=qh (VT b1 b2 b3 hN M HP.o.1 s t);obtain⟨l,hl⟩:=af (IL N f.lists K n);rw[hl] at L B;clear h3 hl b1 b2 b3 s t y b b8;go_wp2_with (go_at_call 118;(with_reducible refine L.o.mono ?_);rintro e3 C ⟨rfl,v⟩);obtain⟨b1,-,-,-,-,y,b,-⟩:=U.o C (o.trans (v.mono o.size));go_ret;rw[B.o];exact⟨rfl,b1,y.up,b⟩
 have k:=qh (k.o.trans (if_neg h3));obtain⟨g3,aE⟩:=gp h3;by_cases h4:d.k=4
 .have B:=qh (k.o.trans (if_pos h4));obtain⟨g4,aD⟩:=jf h4;have L:=qh (Ri b1 b2 b3 hN M HP.o.2.1 HP.o.2.2 s t);obtain⟨l,hl⟩:=af (BV N K f.aA.length n);rw[hl] at L B;clear h3 h4 hl b1 b2 b3 s t y b b8;go_wp2_with (go_at_call 119;(with_reducible refine L.o.mono ?_);rintro e3 C ⟨rfl,v⟩);obtain⟨b1,-,-,-,-,y,b,-⟩:=U.o C (o.trans (v.mono o.size));go_ret;rw[B.o];exact⟨rfl,b1,y.up,b⟩
 have k:=qh (k.o.trans (if_neg h4));obtain⟨g4,aD⟩:=gp h4;by_cases h5:d.k=5
 case neg =>
  have B:=qh (k.o.trans (if_neg h5));obtain⟨g5,WJ⟩:=gp h5;clear Q H p h3 h4 h5;go_wp2;go_ret;rw[B.o];exact⟨rfl,b1,y.up,b⟩
 have k:=qh (k.o.trans (if_pos h5));obtain⟨g5,WJ⟩:=jf h5;obtain⟨a,Y⟩:=List.length_eq_one_iff.1 (ak.o.1 h5);rw[Y] at k;rw[Y,show [a].length=1 from rfl] at p;have HC:=ak.o.2;rw[Y] at HC;have an:=HC.2 a (cf.2 rfl);obtain⟨ae,ci,rfl,aL,A,m⟩:=au.at_ (au.keep (λ _ _ h=>h.keep (b8.mono J)) HC.1 (b8.mono J)) (Nat.lt_succ_self 0)
 replace A:aQ w2 B0 a ci:=A
 replace m:∀ j u,ci[j]?=some u->w2.cell? (ae.add j)=some u:=m
 have fU:=A;obtain⟨-,-,-,-,-,-,-⟩:=fU;rename_i A7 c7 A8 c8 aZ;obtain⟨f0,f1,f2,f3,f4,f5,f6,f7⟩:=e8 m;have L:=qh (show Calls Tryz.prog 120 #[.pointer (some ⟨E,0,none⟩),.agg (BC a A7 c7 A8 a.ar.length c8),.int .i64 n,.slice none 0 0] w2 _ from xJ b1 b2 b3 hN (more:=[]) ⟨by decide,[],Reads.none_,λ i hi=>by cases hi⟩ (.inl ⟨rfl,rfl,rfl⟩) A (b4 J b8.size) M an s t);obtain⟨r,hr⟩:=af (bU N K n [] a);have k:=qh (show R=((bU N K n [] a).2,(d.nm,(bU N K n [] a).1) :: K) from k.o);rw[hr] at L k;clear h3 h4 h5 hr m A aL an b1 b2 b3 s t y b b8 Q H;go_upto_region 15 with (go_at_call 120;(with_reducible refine L.o.mono ?_);rintro e3 C ⟨rfl,v⟩);have v:=o.trans (v.mono o.size);clear f0 f1 f2 f3 f4 f5 f6 f7 p V;obtain⟨b1,b2,b3,s,t,y,b,b8,V,Q,H,p⟩:=U.o C v;have g8:C.cell? ⟨gb,8,none⟩=some (.map (some m3)):=b1.blk.cell 8;obtain⟨kv,k1,k2,k3⟩:=y;obtain⟨W9,aX,ay,aM⟩:=(show aS C.drew m3 kv from k1.same rfl).put Tryz.underlying112 (by unfold maxLen;omega) aq (.int .i64 r.1);have Z:=qh (b5 b1 (b5 b k2));clear b1 b3 s t b8 b k1 k2 V H p;go_region;go_wp2;go_ret;have hg:=mO (grown_of (Below.refl C.heap.size C).drew (some m3)) aM;have ab:Aj W9 m3 ((d.nm,r.1) :: K) (j+1):=⟨_,ay,ZE Z.o.2.2 d.nm r.1,by simp;omega⟩;rw[k.o];exact⟨rfl,Z.o.1.put hg ab,ab,mO Z.o.2.1 hg⟩
end Go.Proofs.YtcnagconagpkcaaGreatDoor
namespace Go.Proofs.YtcnagconagpkcaaGreatDoor
open Go.RowKit
attribute [local go_sem ↓] Go.wp_at_zero Go.wp_at_succ
set_option maxHeartbeats 4000000
set_option maxRecDepth 100000
theorem aie {α:Type}:∀ {cs:List α},cs.length=19->∃ q s m g i l f r j p a c b k n h d e o,cs = [q,s,m,g,i,l,f,r,j,p,a,c,b,k,n,h,d,e,o]
 | [q,s,m,g,i,l,f,r,j,p,a,c,b,k,n,h,d,e,o],_=>⟨q,s,m,g,i,l,f,r,j,p,a,c,b,k,n,h,d,e,o,rfl⟩
theorem alU {α:Type}:∀ {cs:List α},cs.length=23->∃ u w q k m p j v n t b e d o r l g i s f h c a,cs = [u,w,q,k,m,p,j,v,n,t,b,e,d,o,r,l,g,i,s,f,h,c,a]
 | [u,w,q,k,m,p,j,v,n,t,b,e,d,o,r,l,g,i,s,f,h,c,a],_=>⟨u,w,q,k,m,p,j,v,n,t,b,e,d,o,r,l,g,i,s,f,h,c,a,rfl⟩
def BDx (t:TypeId) (ps:Array (Nat × Value)):Sem Value:=Instr.build t ps
def BSx (t:TypeId) (n:Nat) (ps:Array (Nat × Value)):Sem Value:=Instr.buildSlice t n ps
theorem bd_node (ρ:Operand->Value) (dst:Option Tmp) (a b c d e:Operand) (ty:TypeId) (pos:String) (after:Array Edge) (guard:Option (Nat × Bool)) :
  execOp ρ { dst,op:=.build 110 #[(0,a),(1,b),(2,c),(3,d),(4,e)],type:=ty,pos,after,guard } = (do pure (.value (<- BDx 110 #[(0,ρ a),(1,ρ b),(2,ρ c),(3,ρ d),(4,ρ e)]))):=by
 show (do pure (Next.value (<- BDx 110 ((#[(0,a),(1,b),(2,c),(3,d),(4,e)]:Array (Nat × Operand)).map λ (i,x)=>(i,ρ x)))))=_;rw[show ((#[(0,a),(1,b),(2,c),(3,d),(4,e)]:Array (Nat × Operand)).map λ (i,x)=>(i,ρ x)) = #[(0,ρ a),(1,ρ b),(2,ρ c),(3,ρ d),(4,ρ e)] by simp]
theorem bs_node (ρ:Operand->Value) (dst:Option Tmp) (a:Operand) (ty:TypeId) (pos:String) (after:Array Edge) (guard:Option (Nat × Bool)) :
  execOp ρ { dst,op:=.buildSlice 111 1 #[(0,a)],type:=ty,pos,after,guard } = (do pure (.value (<- BSx 111 1 #[(0,ρ a)]))):=by
 show (do pure (Next.value (<- BSx 111 1 ((#[(0,a)]:Array (Nat × Operand)).map λ (i,x)=>(i,ρ x)))))=_;rw[show ((#[(0,a)]:Array (Nat × Operand)).map λ (i,x)=>(i,ρ x)) = #[(0,ρ a)] by simp]
theorem aeQ {w:World} {cs:List Value} (a:cs.length=19) (p q r:Int) (A:Option Addr) (n c:Nat):(BDx 110 #[(0,.agg cs.toArray),(1,bN bO p),(2,bN bO q),(3,bN bO r),(4,bS A n c)]).run Tryz.prog w = .ok (.agg (cs ++ [Value.int bO p,bN bO q,bN bO r,bS A n c]).toArray) w:=by
 obtain⟨l,o,m,t,v,y,u,s,z,x,d,h,f,g,e,i,j,k,b,rfl⟩:=aie a;kernel_rfl
theorem aeR {w:World} {cs:List Value} (a:cs.length=23):(BSx 111 1 #[(0,.agg cs.toArray)]).run Tryz.prog w = .ok (bS (some ⟨w.heap.size,0,none⟩) 1 1) (w.alloc (.cells cs.toArray 110 (0,0))):=by
 obtain⟨o,q,p,s,u,x,t,r,y,v,c,j,e,i,d,l,m,n,b,h,g,f,k,rfl⟩:=alU a;kernel_rfl
theorem add_eq (b:ItemD) (a:List ah) (c f e:Int) (d:List ByteArray):b.add a c f e d=kR b.items (a ++ [⟨b,c,f,e,d⟩]) a.length 0 (e+1) (if b.k=3 then d ++ [b.nm] else d):=by
 cases b;rw[ItemD.add];rfl
def Ak (B0:Nat) (w:World) (B:Nat) (d:ah) (cs:List Value):Prop:=
 B0<=B/\B0<=w.heap.size/\∃ lW A c,cs=lW ++ [bN bO d.par,bN bO d.kV,bN bO d.dJ,bS A d.lo.length c]/\bW w B0 d.it lW/\w.ownsRow B 9 1 (bS A d.lo.length c) d.lo.length (iZ d.lo)/\(∀ s∈d.lo,s.size<=maxLen)/\d.lo.length<=20
structure gm (B gb m1:Nat) (w w':World):Prop where
 os:w'.os=w.os
 tape:w'.tape=w.tape
 output:w'.output=w.output
 size:w.heap.size<=w'.heap.size
 old:∀ g,g<B->g≠gb->g≠m1->w'.heap[g]?=w.heap[g]?
 strs:∀ g cs,B<=g->ag w g 9 cs->ag w' g 9 cs
structure mP (w:World) (B0 gb m1 m2 m3 B:Nat) (x:ku) (A:Option Addr) (c:Nat) (f:aG) (N N':List ah):Prop where
 blk:ag w gb 115 #[bR f.nm,bN bO f.ig,bS x.AL f.aA.length x.cl,bS x.AS f.lists.length x.cs,bS x.AI f.items.length x.ci,bS A N.length c,.map (some m1),.map (some m2),.map (some m3)]
 row:DN 110 23 (Ak B0) w B (bS A N.length c) N
 Qh:∃ kv,aS w m1 kv/\Qg kv N'/\kv.length<=N'.length
 ne:B0<=gb/\B0<=m1/\gb<B/\m1<B/\gb≠m1
 le:B<=w.heap.size
 len:N.length<=301
theorem gm.trans {B gb m1:Nat} {w w' w'':World} (h:gm B gb m1 w w') (k:gm B gb m1 w' w''):gm B gb m1 w w'':=
 ⟨k.os.trans h.os,k.tape.trans h.tape,k.output.trans h.output,b4 h.size k.size,λ g a b c=>(k.old g a b c).trans (h.old g a b c),λ g cs a b=>k.strs g cs a (h.strs g cs a b)⟩
theorem gm.of {B gb m1:Nat} {w w':World} (h:EG w w') (c:B<=w.heap.size):gm B gb m1 w w':=
 ⟨h.os,h.tape,h.output,h.size,λ g a _ _=>h.block g (by omega),λ g cs _ b=>b.below h b.lt⟩
theorem gm.below {B gb m1 B0:Nat} {w w':World} (h:gm B gb m1 w w') (b:B0<=gb) (c:B0<=m1) (a:B0<=B):Below B0 w w':=
 ⟨h.os,h.tape,h.output,h.size,λ g d=>h.old g (by omega) (by omega) (by omega)⟩
theorem gm.str {B gb m1 n:Nat} {w w':World} {v:Value} {xs:List Value} (h:gm B gb m1 w w') (e:w.ownsRow B 9 1 v n xs):w'.ownsRow B 9 1 v n xs:=by
 refine⟨e.1,e.2.imp id ?_⟩;rintro ⟨c,b,a,f,d,g,e3⟩;exact⟨c,b,a,f,d,h.strs c a d g,e3⟩
theorem gm.grown {B gb m1 k n:Nat} {w w':World} {v:Value} {f:List Value} (d:w.ownsRow B 110 k v n f) (c:w.grownBy w' v.ownBlock) (h:B<=w.heap.size):gm B gb m1 w w':=
 ⟨c.os,c.tape,c.output,c.size,λ g a _ _=>c.block g (by omega) (λ e=>by have:=(d.lt g e.symm).1;omega),λ g cs _ b=>b.grown c (λ e=>jw d b (by decide) e.symm)⟩
theorem gm.set {B gb m1:Nat} {w:World} (h:gb<B) (j:Nat) (u:Value):gm B gb m1 w (w.setCell ⟨gb,j,none⟩ u):=
 ⟨rfl,rfl,rfl,by simp[World.setCell],λ g _ b _=>Below.heap_setCell w _ u g b,λ g cs a b=>b.far (by show g≠gb;omega) u⟩
theorem gm.put {B gb m1:Nat} {w w':World} (h:m1<B) (d:w.grownBy w' (some m1)) (f:B<=w.heap.size):gm B gb m1 w w':=
 ⟨d.os,d.tape,d.output,d.size,λ g a _ c=>d.block g (by omega) (λ e=>c (by injection e)),λ g cs a b=>b.grown d (λ e=>by injection e;omega)⟩
theorem zg {B0:Nat}:Nu 110 (Ak B0) where
 later:=by
  rintro w w' B d cs ⟨b,a,l,A,c,e,m,h,i⟩ f;exact⟨b,b4 a f.size,l,A,c,e,m.keep (f.mono a),dm h f,i⟩
 grown:=by
  rintro w w' B d cs v k n q ⟨b,a,l,A,c,e,m,h,i⟩ o j;exact⟨b,b4 a j.size,l,A,c,e,m.keep (tN j a (λ g p=>b4 b (o.lt g p).1)),sD h o (by decide) j,i⟩
theorem Ak.keep {B0 B gb m1:Nat} {w w':World} {d:ah} {cs:List Value} (h:Ak B0 w B d cs) (f:gm B gb m1 w w') (k:B0<=gb) (m:B0<=m1):Ak B0 w' B d cs:=by
 obtain⟨g,a,l,A,c,e,b,i,j⟩:=h;exact⟨g,b4 a f.size,l,A,c,e,b.keep (f.below k m g),f.str i,j⟩
section
variable {w w':World} {B0 gb m1 m2 m3 B:Nat} {x:ku} {A:Option Addr} {c:Nat} {f:aG} {N N':List ah}
theorem mP.later (h:mP w B0 gb m1 m2 m3 B x A c f N N') (a:EG w w'):mP w' B0 gb m1 m2 m3 B x A c f N N':=by
 obtain⟨e,b,d⟩:=h.Qh;exact⟨h.blk.below a h.blk.lt,h.row.keep zg a,⟨e,b.below a b.lt,d⟩,h.ne,b4 h.le a.size,h.len⟩
theorem mP.push (h:mP w B0 gb m1 m2 m3 B x A c f N N') {d:ah} {cs ds:List Value} {g a:Nat} (j:w.ownsRow B 110 23 (bS A N.length c) N.length cs) (G:∀ i (h:i<N.length),Ak B0 w B N[i] ((cs.drop (i*23)).take 23)) (z:Ak B0 w B d ds) (F:ds.length=23)
  (s:w'.ownsRow B 110 23 (bS (some ⟨g,0,none⟩) (N.length+1) a) (N.length+1) (cs ++ ds)) (b:w.grownBy w' (cg A N.length c).ownBlock) (H:N.length<=300) :
  mP (w'.setCell ⟨gb,5,none⟩ (bS (some ⟨g,0,none⟩) (N.length+1) a)) B0 gb m1 m2 m3 B x (some ⟨g,0,none⟩) a f (N ++ [d]) N'/\gm B gb m1 w (w'.setCell ⟨gb,5,none⟩ (bS (some ⟨g,0,none⟩) (N.length+1) a)):=by
 obtain⟨r,E,q,t,n⟩:=h.ne;have l:gm B gb m1 w w':=gm.grown j b h.le;have m:gm B gb m1 w' (w'.setCell ⟨gb,5,none⟩ (bS (some ⟨g,0,none⟩) (N.length+1) a)):=gm.set q 5 _;obtain⟨D,p,C⟩:=h.Qh;have v:=h.blk.grown b (λ e=>by have:=(j.lt gb e.symm).1;omega);obtain⟨k,o,y⟩:=DN.snoc zg j G z F s b;rw[cb,cp] at o;refine⟨⟨?_,⟨k,?_,λ i u=>(y i u).keep m r E⟩,⟨D,(p.same (l.old m1 t (λ e=>n e.symm) |> λ _=>b.block m1 p.lt (λ e=>by have:=(j.lt m1 e.symm).1;omega))).setCell (λ e=>n e.symm) _,C⟩,h.ne,?_,by simp;omega⟩,l.trans m⟩
 .have:=v.dS 5 (bS (some ⟨g,0,none⟩) (N.length+1) a);simpa using this
 .rw[cb,cp];exact zL o q _
 .exact b4 h.le (b4 l.size m.size)
theorem mP.named (h:mP w B0 gb m1 m2 m3 B x A c f N N') (a:w.grownBy w' (some m1)) {N2:List ah} (p:∃ b,aS w' m1 b/\Qg b N2/\b.length<=N2.length):mP w' B0 gb m1 m2 m3 B x A c f N N2/\gm B gb m1 w w':=by
 obtain⟨k,o,r,l,m⟩:=h.ne;have g:gm B gb m1 w w':=gm.put l a h.le;obtain⟨cs,d,j⟩:=h.row;refine⟨⟨h.blk.grown a (λ e=>m (by injection e)),⟨cs,d.kept a ?_,λ i n=>(j i n).keep g k o⟩,p,h.ne,b4 h.le a.size,h.len⟩,g⟩;cases hq:(cg A N.length c).ownBlock with
 | none=>exact .inl rfl
 | some q=>exact .inr (λ e=>by injection e with e;have:=(d.lt q hq).1;omega)
end
theorem Jl (N:List ah) (d:ah) (s:ByteArray):bG (N ++ [d]) s=if bG N s<0 then (if d.it.nm=s then (N.length:Int) else -1) else bG N s:=by
 unfold bG;rw[List.findIdx?_append];cases h:N.findIdx? (λ d=>decide (d.it.nm=s)) with
 | some i=>simp;omega
 | none =>
  by_cases e:d.it.nm=s
  .simp[e]
  .simp[e]
theorem ZF {a:List (ByteArray × Value)} {N:List ah} {d:ah} (h:Qg a N) (b:bG N d.it.nm<0):Qg ((d.it.nm,bN bO (N.length:Nat)) :: a) (N ++ [d]):=by
 intro s;rw[gz,Jl];by_cases e:d.it.nm=s
 .subst e;rw[if_pos rfl,if_pos b,if_pos rfl,if_neg (by omega)]
 .rw[if_neg e,if_neg e,h s];by_cases h0:bG N s<0
  .rw[if_pos h0,if_pos h0,if_pos (by decide)]
  .rw[if_neg h0,if_neg h0,if_neg h0]
theorem ZG {a:List (ByteArray × Value)} {N:List ah} {d:ah} (h:Qg a N) (b:¬ bG N d.it.nm<0):Qg a (N ++ [d]):=by
 intro s;rw[Jl,h s];by_cases h0:bG N s<0
 .have e:¬ d.it.nm=s:=λ e=>b (e▸h0);rw[if_pos h0,if_pos h0,if_neg e,if_pos (by decide)]
 .rw[if_neg h0,if_neg h0,if_neg h0]
end Go.Proofs.YtcnagconagpkcaaGreatDoor
namespace Go.Proofs.YtcnagconagpkcaaGreatDoor
open Go.RowKit
attribute [local go_sem ↓] Go.wp_at_zero Go.wp_at_succ
attribute [local go_sem ↓] ld_item st_item ld_node st_node ld_ans st_ans ld_part st_part ld_rule st_rule ld_form st_form
attribute [local go_sem ↓] bd_node bs_node
set_option maxHeartbeats 4000000
set_option maxRecDepth 100000
theorem bW.look {w:World} {B0:Nat} {d:ItemD} {cs:List Value} (h:bW w B0 d cs):cs.length=19/\(∀ v∈cs,v.oneCell'=true)/\∃ a b,cs[0]?=some (bN bO d.k)/\cs[1]?=some (bR d.nm)/\cs[4]?=some (bS a d.items.length b)/\zJ w B0 a d.items/\d.items.length<=b/\d.nm.size<=maxLen:=by
 cases h with
 | mk h1 h2 h4 h5 ha l1 l3 l4 l5 l6 l7 l8 hr hi=>exact⟨rfl,by simp[itC,Nj,Value.oneCell'],_,_,rfl,rfl,rfl,⟨l8,_,hr,hi⟩,l3,l6⟩
theorem ZH:(Tryz.prog.info? 110).map (λ i=>(i.zero,i.size,i.bytes))=some (some (.agg #[.int .i64 0,.string ⟨#[]⟩,.slice none 0 0,.slice none 0 0,.slice none 0 0,.bool false,.slice none 0 0,.string ⟨#[]⟩,.int .i64 0,.int .i64 0,.int .i64 0,.int .i64 0,.string ⟨#[]⟩,.slice none 0 0,.bool false,.slice none 0 0,.bool false,.slice none 0 0,.slice none 0 0,.int .i64 0,.int .i64 0,.int .i64 0,.slice none 0 0]),23,352):=by kernel_rfl
theorem VU {l:List ItemD} {N:List ah} {a b:Int} {lo:List ByteArray} {k:Nat} (h:k<l.length):kR (l.drop k) N a k b lo=if 300<N.length\/13<b then N else kR (l.drop (k+1)) (l[k].add N a k b lo) a ((k+1:Nat):Int) b lo:=by
 rw[List.drop_eq_getElem_cons h,kR];rfl
theorem ZI {l:List ItemD} {N:List ah} {a c:Int} {b:List ByteArray}:kR (l.drop l.length) N a l.length c b=N:=by
 rw[List.drop_length,kR]
def acs (B0 gb m1 m2 m3 B:Nat) (x:ku) (f:aG) (R:List ah) (w w':World):Prop:=∃ A2 c2,mP w' B0 gb m1 m2 m3 B x A2 c2 f R R/\gm B gb m1 w w'
def ZJ (B0 gb m1 m2 m3 B:Nat) (x:ku) (f:aG) (items:List ItemD):Prop:=∀ (w:World) (N:List ah) (A A' AL:Option Addr) (c c' cl:Nat) (par:Int) (dJ:Nat) (lo:List ByteArray),mP w B0 gb m1 m2 m3 B x A c f N N->zJ w B0 A' items->items.length<=c'->w.ownsRow B 9 1 (bS AL lo.length cl) lo.length (iZ lo)->(∀ s∈lo,s.size<=maxLen)->dJ<=14->lo.length<=dJ ->
 Calls Tryz.prog 111 #[bX (some ⟨gb,0,none⟩),bS A' items.length c',bN bO par,bN bO (dJ:Nat),bS AL lo.length cl] w λ e w'=>e = b0 (.tuple #[])/\acs B0 gb m1 m2 m3 B x f (kR items N par 0 dJ lo) w w'
theorem OX {B0 gb m1 m2 m3 B:Nat} {x:ku} {f:aG} {items:List ItemD} (X:∀ it∈items,ZJ B0 gb m1 m2 m3 B x f it.items):ZJ B0 gb m1 m2 m3 B x f items:=by
 intro w N A A' T c c' V m dJ l hA hit bK a0 bc bE bB;obtain⟨i0,bd,a9,be,ba⟩:=info_parts zA;obtain⟨j0,bw,bs,bk,bx⟩:=info_parts ZH;obtain⟨n1,n2,n3,n4,n5⟩:=hA.ne;have r:B0<=B:=b4 n1 (Nat.le_of_lt n3);have bq:=hit.1;unfold maxLen at bq;have M:=qh (b5 hit (b5 a0 bc));have HR:=qh X;obtain⟨R,hR⟩:=af (kR items N m 0 dJ l);have bm:=qh (show R=kR (items.drop 0) N m (0:Nat) dJ l from hR.symm);have aE:=qh hA;rw[hR];clear hA hit a0 bc X hR;go_enter Tryz.func111,Tryz.ntmps111;go_wp2;go_loopw [18] (λ i wr=>∃ (k:Nat) (b:List ah) (A:Option Addr) (c:Nat),i = bN bO k/\k<=items.length/\Hid (R=kR (items.drop k) b m k dJ l)/\Hid (mP wr B0 gb m1 m2 m3 B x A c f b b)/\Hid (gm B gb m1 w wr)) (λ i _=>items.length+1 - (intOf i).toNat)
 case atStart=>exact⟨0,N,A,c,rfl,cc _,bm,aE,qh (gm.of (Below.refl _ _) aE.o.le)⟩
 case round =>
  obtain⟨k,b,A,c,rfl,hk,y,F,U⟩:=hrel;by_cases hlt:k<items.length
  case neg =>
   obtain rfl:k=items.length:=by omega
   have HE:=qh (y.o.trans ZI);go_wp2;go_end0;exact⟨rfl,A,c,HE.o▸F.o,U.o⟩
  have y:=qh (y.o.trans (VU hlt));have aw:Below B0 w wr:=U.o.below n1 n2 r;obtain⟨ad,ci,rfl,J,P,H⟩:=au.at_ (au.keep (λ _ _ h=>h.keep aw) M.o.1 aw) hlt;have ap:=qh (HR.o _ (ck hlt));obtain⟨d,hd⟩:=af (items[k]);rw[hd] at P y ap;obtain⟨E,ar,A3,c3,e0,e1,e4,ax,bh,aa⟩:=P.look;have an:=vC (w:=wr) E H;have av:=Nq (w:=wr) E ar;obtain⟨W,hW,lJ,BW⟩:=box wr 59 ci.toArray;rw[<- hW] at av;clear hW;have L:=F.o.le;have U:=qh (U.o.trans (gm.of lJ L));have F:=qh (F.o.later lJ);have bl:=lJ.size;have G:=F.o.len;have aZ:=qh (show ∀ w',EG wr w'\/gm B gb m1 W w'->zJ w' B0 A3 d.items from λ w' hq=>by
   have:Below B0 wr w':=hq.elim (λ h=>h.mono (b4 r L)) (λ h=>(lJ.mono (b4 r L)).trans (h.below n1 n2 r));exact ax.keep (λ _ _ h=>h.keep this) this)
  have aX:=qh hlt;have r5:=F.o.blk.cell 5;have tq:=qh (b5 e0 (b5 e1 (b5 e4 (P.keep (lJ.mono (b4 r L))))));clear H J hd ax P hlt;go_upto_region 3 with (fail);clear an av;by_cases h3:300<b.length
  .have HE:=qh (y.o.trans (if_pos (.inl h3)));have g3:(300:Int)<b.length:=by omega
   have Q:decide ((300:Int)<b.length)=true:=decide_eq_true g3;have aL:decide (300<b.length)=true:=decide_eq_true h3;clear h3;go_wp2
   (try simp only[Exit.inBlock,Exit.then])
   refine bodyPost_ret (results_none rfl _ _ _) rfl ?_;exact⟨rfl,A,c,HE.o▸F.o,U.o⟩
  have g3:¬ (300:Int)<b.length:=by omega
  have Q:decide ((300:Int)<b.length)=false:=decide_eq_false g3;have aL:decide (300<b.length)=false:=decide_eq_false h3;by_cases h13:13<dJ
  .have HE:=qh (y.o.trans (if_pos (.inr (by omega))));have g4:(13:Int)<dJ:=by omega
   have a8:decide ((13:Int)<dJ)=true:=decide_eq_true g4;have bg:decide (13<dJ)=true:=decide_eq_true h13;clear h13;go_wp2
   (try simp only[Exit.inBlock,Exit.then])
   refine bodyPost_ret (results_none rfl _ _ _) rfl ?_;exact⟨rfl,A,c,HE.o▸F.o,U.o⟩
  have g4:¬ (13:Int)<dJ:=by omega
  have a8:decide ((13:Int)<dJ)=false:=decide_eq_false g4;have bg:decide (13<dJ)=false:=decide_eq_false h13;have y:=qh (y.o.trans (if_neg (λ h=>h.elim h3 (λ h=>h13 (by omega)))));rw[add_eq] at y;go_upto_region 5 with (fail);clear g3 Q aL g4 a8 bg;obtain⟨ds,I⟩:∃ ds:List Value,ci ++ [bN bO m,bN bO (k:Nat),bN bO (dJ:Nat),bS T l.length V]=ds:=⟨_,rfl⟩;have ao:ds.length=23:=by rw[<- I,cb,E];rfl
  have aD:=λ w'=>aeQ (w:=w') E m (k:Nat) (dJ:Nat) T l.length V;rw[I] at aD;have br:=λ w'=>aeR (w:=w') ao;have bf:∀ v∈ds,v.oneCell'=true:=by
   intro v hv;rw[<- I] at hv;rcases cq.1 hv with q | q
   .exact ar v q
   .simp only[cr,cf,List.not_mem_nil,or_false] at q;rcases q with rfl | rfl | rfl | rfl <;> rfl
  obtain⟨xs,ay,a4⟩:=F.o.row;have OV:(W.alloc (.cells ds.toArray 110 (0,0))).drew.ownsRow B 110 23 (bS A b.length c) b.length xs:=ay.alloc _;have HX:=qh a4;have Ba:=qh (show W.ownsRow B 9 1 (bS T l.length V) l.length (iZ l) from U.o.str M.o.2.1);have dH:=qh BW;have lg:=qh F.o.blk;have aq:B<=W.heap.size:=b4 L bl;have r5:W.drew.cell? ⟨gb,5,none⟩=some (bS A b.length c):=lg.o.drew.cell 5;have bo:(W.alloc (.cells ds.toArray 110 (0,0))).drew.cell? ⟨gb,5,none⟩=some (bS A b.length c):=(lg.o.alloc _).drew.cell 5;have an:=vC (w:=W.drew) E (gU dH.o.drew);have bj:=qh (show ∀ w',EG W w'->mP w' B0 gb m1 m2 m3 B x A c f b b/\(∀ i (h:i<b.length),Ak B0 w' B b[i] ((xs.drop (i*23)).take 23))/\Ak B0 w' B ⟨d,m,(k:Nat),(dJ:Nat),l⟩ ds from λ w' hq =>
   ⟨F.o.later hq,λ i hi=>zg.later (HX.o i hi) hq,r,b4 r (b4 aq hq.size),ci,T,V,I.symm,tq.o.2.2.2.keep (hq.mono (b4 r aq)),dm Ba.o hq,M.o.2.2,by show l.length<=20;omega⟩)
  obtain⟨O,a5⟩:=af (b ++ [⟨d,m,(k:Nat),(dJ:Nat),l⟩]);have C:=qh a5;clear ay a4 BW I a5;go_cut [12] from 19 (λ v wd=>v = bN bO (b.length:Nat)/\Hid (∃ A4 c4,mP wd B0 gb m1 m2 m3 B x A4 c4 f O b)/\Hid (gm B gb m1 W wd)/\Hid (ag wd wr.heap.size 59 ci.toArray))
  case first =>
   go_region_law (refine step_append_lies _ rfl _ _ 111 rfl B 110 j0 (.agg #[.int .i64 0,.string ⟨#[]⟩,.slice none 0 0,.slice none 0 0,.slice none 0 0,.bool false,.slice none 0 0,.string ⟨#[]⟩,.int .i64 0,.int .i64 0,.int .i64 0,.int .i64 0,.string ⟨#[]⟩,.slice none 0 0,.bool false,.slice none 0 0,.bool false,.slice none 0 0,.slice none 0 0,.int .i64 0,.int .i64 0,.int .i64 0,.slice none 0 0]) 23 352 Tryz.underlying111 bw bs bk bx rfl (by decide) _ b.length xs rfl OV ⟨W.heap.size,0,none⟩ 1 1 ds rfl (by rw[ao]) (gU (cs:=ds) (ag.new W _ _)) bf (by decide) (by unfold maxLen;omega) (by omega) (by simp;omega) _ rfl ?_;intro g4 bA w4 ac ak _ _;have aM:=(lg.o.alloc (.cells ds.toArray 110 (0,0))).drew.grown ak (λ e=>jw OV (lg.o.alloc _).drew (by decide) e.symm);have bn:=(dH.o.alloc (.cells ds.toArray 110 (0,0))).drew.grown ak (λ e=>jw OV (dH.o.alloc _).drew (by decide) e.symm);have z5:=aM.cell 5;have bL:=aM.frozen 5)
   all_goals
    obtain⟨a1,a2,a3⟩:=bj.o _ (aB W _).drew;obtain⟨Y,F5⟩:=a1.push OV a2 a3 ao ac ak (by omega);rw[C.o] at Y
    try go_wp2_with fail
    go_meet
    exact⟨rfl,qh ⟨_,_,Y⟩,qh ((gm.of (aB W _).drew aq).trans F5),qh (bn.far (by show wr.heap.size≠gb;omega) _)⟩
  case rest =>
  obtain⟨rfl,H5,F5,B5⟩:=hcut;clear an r5 bo OV aD br bf;obtain⟨A4,c4,Y⟩:=H5.o;obtain⟨kv,k1,k2,k3⟩:=Y.Qh;have g6:wc.cell? ⟨gb,6,none⟩=some (.map (some m1)):=Y.blk.cell 6;have aR:=Y.le;have H5:=qh Y;have K2:=qh (b5 k2 k3);have J:=λ (w':World) (h:ag w' wr.heap.size 59 ci.toArray)=>b5 (show w'.cell? ⟨wr.heap.size,0,none⟩=some (.int .i64 d.k) by rw[h.cell 0];simpa using tq.o.1) (b5 (show w'.cell? ⟨wr.heap.size,1,none⟩=some (.string d.nm) by rw[h.cell 1];simpa using tq.o.2.1) (show w'.cell? ⟨wr.heap.size,4,none⟩=some (.slice A3 d.items.length c3) by rw[h.cell 4];simpa using tq.o.2.2.1));have bv:=qh J;obtain⟨r0,r1,r4⟩:=J _ B5.o;have hl:=(show aS wc.drew m1 kv from k1.same rfl).look Tryz.underlying112 (XK _) aa;rw[k2 d.nm] at hl;have K1:=qh k1;clear Y k1 k2 J;by_cases hnum:bG b d.nm<0
  case' pos =>
   rw[if_pos hnum] at hl;simp only[Option.getD_none,Option.isSome_none] at hl;go_upto_region 6 with (fail);go_region;obtain⟨W6,bb,VP,al⟩:=(show aS wc.drew.drew m1 kv from K1.o.same rfl).put Tryz.underlying112 (by unfold maxLen;omega) aa (.int .i64 (b.length:Nat));go_upto_region 8 with (fail);go_region;have p:EG wc wc.drew.drew:=(Below.refl _ _).drew.drew;obtain⟨P6,Z⟩:=(H5.o.later p).named al (N2:=O) ⟨_,VP,C.o▸ZF (d:=⟨d,m,(k:Nat),(dJ:Nat),l⟩) K2.o.1 hnum,by rw[<- C.o];simp;exact K2.o.2⟩;have Z:=qh (F5.o.trans ((gm.of p aR).trans Z));have B6:=qh (B5.o.drew.drew.grown al (λ e=>by injection e;omega));clear bb VP al p
  case' neg =>
   rw[if_neg hnum] at hl;simp only[Option.getD_some,Option.isSome_some] at hl;go_upto_region 6 with (fail);go_region;obtain⟨W6,Jg⟩:∃ W',W'=wc.drew:=⟨_,rfl⟩;have p:EG wc W6:=Jg▸(Below.refl _ _).drew;obtain⟨P6,Z⟩:=(H5.o.later p).named (World.grownBy.refl _ _) (N2:=O) ⟨_,K1.o.below p K1.o.lt,C.o▸ZG (d:=⟨d,m,(k:Nat),(dJ:Nat),l⟩) K2.o.1 hnum,by rw[<- C.o];simp;have:=K2.o.2;omega⟩;have Z:=qh (F5.o.trans (gm.of p aR));have B6:=qh (B5.o.below p B5.o.lt);rw[<- Jg];clear Jg p
  all_goals
   clear hl g6 r0 r1 r4 hnum;obtain⟨r0,r1,r4⟩:=bv.o _ B6.o;have aA:=P6.le;have H6:=qh P6;have y:=y;have i1:IntKind.i64.wrap ((dJ:Int)+1)=(dJ:Int)+1:=IntWalk.i64_in _ (by omega);have i2:(dJ:Int)+1=((dJ+1:Nat):Int):=by omega
   rw[C.o,i2] at y;have a6:=qh (Z.o.str Ba.o);clear P6 i2;by_cases h3:d.k=3
   case' neg =>
    have S:=qh (show R=kR (items.drop (k+1)) (kR d.items O (b.length:Nat) 0 (dJ+1:Nat) l) m ((k+1:Nat):Int) dJ l by rw[y.o,if_neg h3]);have KR:=qh (show Calls Tryz.prog 111 #[bX (some ⟨gb,0,none⟩),bS A3 d.items.length c3,bN bO (b.length:Nat),bN bO ((dJ:Int)+1),bS T l.length V] W6 λ e w'=>e = b0 (.tuple #[])/\acs B0 gb m1 m2 m3 B x f (kR d.items O (b.length:Nat) 0 (dJ+1:Nat) l) W6 w' from ap.o W6 O _ A3 T _ c3 V (b.length:Nat) (dJ+1) l H6.o (aZ.o _ (.inr Z.o)) bh a6.o M.o.2.2 (by omega) (by omega));obtain⟨N8,z⟩:=af (kR d.items O (b.length:Nat) 0 (dJ+1:Nat) l);rw[z] at S KR;obtain⟨g3,Q⟩:=gp h3;have F9:=Z;clear h3 z
   case' pos =>
    have S:=qh (show R=kR (items.drop (k+1)) (kR d.items O (b.length:Nat) 0 (dJ+1:Nat) (l ++ [d.nm])) m ((k+1:Nat):Int) dJ l by rw[y.o,if_pos h3]);obtain⟨N8,z⟩:=af (kR d.items O (b.length:Nat) 0 (dJ+1:Nat) (l ++ [d.nm]));rw[z] at S;obtain⟨g3,Q⟩:=jf h3;have bp:=qh z;clear h3 z;have t:=Below.refl W6.heap.size W6;have Xp:∀ o,EG W6 (W6.alloc o).drew:=λ o=>(t.alloc (ca _) _).drew;have K1:=qh (show ∀ w',EG W6 w'->Calls Tryz.prog 38 #[bS T l.length V] w' λ en am=>∃ v,en = b0 v/\am.ownsRow W6.heap.size 9 1 v l.length (iZ l)/\EG W6 am/\EG w' am from λ w' hb =>
     (cloneS l T V _ w' ((Reads.fM a6.o).below hb) (by omega)).mono λ _ _ ⟨v,he,ho,hk⟩=>⟨v,he,own_base ho hb.size,hb.trans (hk.mono hb.size),hk⟩)
    have HS:=qh (show ∀ w',EG W6 w'->w'.cell? ⟨wr.heap.size,1,none⟩=some (bR d.nm)/\EG W6 w' from λ w' hb=>⟨Below.cell_of hb r1,hb⟩);have bt:=qh r4;clear r4;go_upto_region 11 with (fail);clear r0 r1;have r1:=(HS.o _ t).1;go_region_held3 (λ w'=>w'.cell? ⟨wr.heap.size,1,none⟩=some (bR d.nm)/\EG W6 w')
     (first | exact HS.o _ t | exact HS.o _ t.drew | exact HS.o _ n | exact HS.o _ K | exact HS.o _ (n.alloc (b4 t.size n.size) _) | exact HS.o _ (Xp _))
     (first
      | (go_at_call 38;(with_reducible refine (K1.o _ t.drew).mono ?_);rintro e1 w1 ⟨v,rfl,D,n,vI⟩)
      | (go_at_call 38;(with_reducible refine (K1.o _ (Xp _)).mono ?_);rintro e1 w1 ⟨v,rfl,D,n,vI⟩;have bi:=Below.cell_of (a:=⟨W6.heap.size,0,none⟩) (v:=bR d.nm) vI (by simp[go_sem]))
      | (refine step_append_lies _ rfl _ _ 22 rfl W6.heap.size 9 i0 (.string ByteArray.empty) 1 16 Tryz.underlying22 bd a9 be ba rfl (by decide) v l.length (iZ l) rfl (D.alloc _) ⟨w1.heap.size,0,none⟩ 1 1 [.string d.nm] rfl rfl (by intro j u hj;cases j <;> simp_all[go_sem]) (by intro u hu;simp only[cf] at hu;subst hu;rfl) (by decide) (by unfold maxLen;omega) (by omega) (by have:=n.size;first | omega | (simp;omega)) _ rfl ?_;intro g ab w2 a7 ae _ _;have K:=(n.alloc (b4 t.size n.size) _).grown ae (by have:=n.size;simp;omega) (λ g hg=>(D.lt g hg).1))
      | (refine step_append_lies _ rfl _ _ 22 rfl W6.heap.size 9 i0 (.string ByteArray.empty) 1 16 Tryz.underlying22 bd a9 be ba rfl (by decide) v l.length (iZ l) rfl D ⟨W6.heap.size,0,none⟩ 1 1 [.string d.nm] rfl rfl (by intro j u hj;cases j with | zero=>(have hu:u = .string d.nm:=by simpa using hj.symm);subst hu;exact bi | succ j=>simp at hj) (by intro u hu;simp only[cf] at hu;subst hu;rfl) (by decide) (by unfold maxLen;omega) (by omega) (by have:=n.size;first | omega | (simp;omega)) _ rfl ?_;intro g ab w2 a7 ae _ _;have K:=n.grown ae n.size (λ g hg=>(D.lt g hg).1)))
    all_goals
     have G:(l ++ [d.nm]).length=l.length+1:=by simp
     have F9:=qh (Z.o.trans (gm.of K aA));have KR:=qh (show Calls Tryz.prog 111 #[bX (some ⟨gb,0,none⟩),bS A3 d.items.length c3,bN bO (b.length:Nat),bN bO ((dJ:Int)+1),bS (some ⟨g,0,none⟩) (l.length+1) ab] w2 λ e w'=>e = b0 (.tuple #[])/\acs B0 gb m1 m2 m3 B x f N8 w2 w' by
      have h:=ap.o w2 O _ A3 (some ⟨g,0,none⟩) _ c3 ab (b.length:Nat) (dJ+1) (l ++ [d.nm]) (H6.o.later K) (aZ.o _ (.inr F9.o)) bh (by rw[IB,G];exact own_base a7 aA) (λ s hs=>by
       rcases cq.1 hs with q | q
       .exact M.o.2.2 s q
       .rw[cf] at q;rw[q];exact aa) (by omega) (by omega)
      rw[G,bp.o] at h;exact h)
     have r4:=Below.cell_of K bt.o
   all_goals
    go_wp2_with (go_at_call 111;(with_reducible refine KR.o.mono ?_);rintro e8 w8 ⟨rfl,A8,c8,P8,F8⟩);go_roundw
    case rel=>exact⟨k+1,N8,A8,c8,by go_num,aX.o,S,qh P8,qh ((U.o.trans F9.o).trans F8)⟩
    case measure =>
     have:=aX.o;simp[intOf];omega
end Go.Proofs.YtcnagconagpkcaaGreatDoor
namespace Go.Proofs.YtcnagconagpkcaaGreatDoor
open Go.RowKit
attribute [local go_sem ↓] Go.wp_at_zero Go.wp_at_succ
set_option maxHeartbeats 4000000
set_option maxRecDepth 100000
section
variable {B0 gb m1 m2 m3 B:Nat} {x:ku} {f:aG}
mutual
theorem aeU:∀ a:ItemD,ZJ B0 gb m1 m2 m3 B x f a.items
 | .mk _ _ _ _ items _ _ _ _ _=>OX (KG items)
theorem KG:∀ l:List ItemD,∀ b∈l,ZJ B0 gb m1 m2 m3 B x f b.items
 | [],_,h=>by cases h
 | a :: r,b,h=>by
  rcases cr.1 h with e | e
  .rw[e];exact aeU a
  .exact KG r b e
end
theorem ZK (items:List ItemD):ZJ B0 gb m1 m2 m3 B x f items:=OX (KG items)
end
theorem mP.other {w w':World} {B0 gb m1 m2 m3 B m:Nat} {x:ku} {A:Option Addr} {c:Nat} {f:aG} {N N':List ah} (h:mP w B0 gb m1 m2 m3 B x A c f N N') (a:w.grownBy w' (some m)) (I:m<B) (z:m≠gb) (p:m≠m1) (F:B0<=m):mP w' B0 gb m1 m2 m3 B x A c f N N':=by
 obtain⟨C,H,G,D,E⟩:=h.ne;obtain⟨cs,d,o⟩:=h.row;obtain⟨s,t,r⟩:=h.Qh;refine⟨h.blk.grown a (λ e=>z (by injection e with e;exact e.symm)),⟨cs,d.kept a ?_,λ i l=>?_⟩,⟨s,t.kept a (λ e=>p (by injection e with e;exact e.symm)),r⟩,h.ne,b4 h.le a.size,h.len⟩
 .cases hq:(cg A N.length c).ownBlock with
  | none=>exact .inl rfl
  | some q=>exact .inr (λ e=>by injection e with e;have:=(d.lt q hq).1;omega)
 .obtain⟨n,g,v,A',c',e,y,b,u⟩:=o i l;refine⟨n,b4 g a.size,v,A',c',e,y.keep (tN a g (λ k j=>by injection j with j;omega)),b.kept a ?_,u⟩;cases hq:(cg A' N[i].lo.length c').ownBlock with
  | none=>exact .inl rfl
  | some q=>exact .inr (λ e=>by injection e with e;have:=(b.lt q hq).1;omega)
theorem mP.nodes {w:World} {B0 gb m1 m2 m3 B:Nat} {x:ku} {A:Option Addr} {c:Nat} {f:aG} {N N':List ah} (h:mP w B0 gb m1 m2 m3 B x A c f N N') (u:m3<B):uk w B0 m3 A N/\N.length<=c:=by
 obtain⟨cs,k,n⟩:=h.row;refine⟨⟨h.len,λ ad e=>?_,cs,Reads.fM k,λ i l=>?_⟩,wL k⟩
 .subst e;rcases k.2 with ⟨a,-⟩ | ⟨g,j,d,a,m,-⟩
  .injection a with a;cases a
  .injection a with a;injection a with a;subst a;show g≠m3;omega
 .obtain⟨r,t,p,A',c',e,q,b,o,s⟩:=n i l;refine⟨p,A',c',e,q,⟨Reads.fM b,wL b,by unfold maxLen;omega,o⟩,by omega,λ ad e=>?_⟩;subst e;rcases b.2 with ⟨a,-⟩ | ⟨g,j,d,a,m,-⟩
  .injection a with a;cases a
  .injection a with a;injection a with a;subst a;show g≠m3;omega
theorem Gz {L:List aW} {k:Nat} (h:k<L.length) (s:ByteArray):eX (L.take (k+1)) s=match eX (L.take k) s with | some l=>some l | none=>if L[k].nm=s then some L[k] else none:=by
 unfold eX;rw[List.take_succ_eq_append_getElem h,List.find?_append];cases (L.take k).find? (λ l=>decide (l.nm=s)) with
 | some l=>rfl
 | none=>by_cases e:L[k].nm=s <;> simp[e]
theorem ZL {w:World} {B0:Nat} {b:List (ByteArray × Value)} {L:List aW} {k:Nat} (h:Fb w B0 b (L.take k)) (i:k<L.length) (f:eX (L.take k) L[k].nm=none) {A:Option Addr} {c:Nat} (g:dW w B0 L[k] (Hw L[k] A c)):Fb w B0 ((L[k].nm,.agg (Hw L[k] A c).toArray) :: b) (L.take (k+1)):=by
 intro s;rw[Gz i];have a:=h s;by_cases e:L[k].nm=s
 .subst e;rw[f,if_pos rfl];exact⟨A,c,by rw[gz,if_pos rfl],g⟩
 .cases hq:eX (L.take k) s with
  | some l =>
   rw[hq] at a;obtain⟨A',c',d,j⟩:=a;exact⟨A',c',by rw[gz,if_neg e];exact d,j⟩
  | none =>
   rw[hq] at a;rw[if_neg e];show gz _ s=none;rw[gz,if_neg e];exact a
theorem ZM {w:World} {B0:Nat} {b:List (ByteArray × Value)} {L:List aW} {k:Nat} (h:Fb w B0 b (L.take k)) (d:k<L.length) (c:¬ eX (L.take k) L[k].nm=none):Fb w B0 b (L.take (k+1)):=by
 intro s;rw[Gz d];have a:=h s;cases hq:eX (L.take k) s with
 | some l=>rw[hq] at a;exact a
 | none =>
  rw[hq] at a;rw[if_neg (λ e=>c (by rw[e];exact hq))];exact a
def acu (f:aG) (x:ku) (B0:Nat) (e:Ending) (w':World):Prop:=∃ gb m1 m2 m3 A c,e = b0 (bX (some ⟨gb,0,none⟩))/\aJ w' B0 gb m1 m2 m3 {x with AN:=A,cn:=c} f (aC f) []/\Aj w' m3 [] 0
theorem open_any {w:World} {f:aG} {x:ku} (hf:gQ w w.heap.size f x) :
  Calls Tryz.prog 70 #[.agg (BO f x)] w λ e w'=>acu f x w.heap.size e w'/\EG w w':=by
 obtain⟨a,ab,Z,v⟩:=box w 26 (BO f x);have q0:=v.cell 0;have q1:=v.cell 1;have q2:=v.cell 2;have q3:=v.cell 3;have q4:=v.cell 4;have ao:=@run_makeMap Tryz.prog;have q:=qh hf;go_enter Tryz.func70,Tryz.ntmps70;go_upto_region 1 with (fail);rw[<- ab];clear ab;go_upto_region 2 with (fail);clear ao;obtain⟨W5,E⟩:∃ W',W'=(((a.alloc (.map #[] 0)).alloc (.map #[] 0)).alloc (.map #[] 0)).alloc (.cells #[bR f.nm,bN bO f.ig,bS x.AL f.aA.length x.cl,bS x.AS f.lists.length x.cs,bS x.AI f.items.length x.ci,bS none 0 0,.map (some a.heap.size),.map (some (a.heap.size+1)),.map (some (a.heap.size+1+1))] 115 (0,0)):=⟨_,rfl⟩;have H:EG a W5:=E▸((((Below.refl _ a).alloc (ca _) _).alloc (by simp) _).alloc (by simp;omega) _).alloc (by simp;omega) _;have ap:W5.heap.size=a.heap.size+4:=by rw[E];simp
 have M1:aS W5 a.heap.size []:=E▸(((aS.made a).alloc _).alloc _).alloc _;have M2:aS W5 (a.heap.size+1) []:=by
  have h:=((aS.made (a.alloc (.map #[] 0))).alloc (.map #[] 0)).alloc (.cells #[bR f.nm,bN bO f.ig,bS x.AL f.aA.length x.cl,bS x.AS f.lists.length x.cs,bS x.AI f.items.length x.ci,bS none 0 0,.map (some a.heap.size),.map (some (a.heap.size+1)),.map (some (a.heap.size+1+1))] 115 (0,0));rw[E];simpa using h
 have M3:aS W5 (a.heap.size+1+1) []:=by
  have h:=(aS.made ((a.alloc (.map #[] 0)).alloc (.map #[] 0))).alloc (.cells #[bR f.nm,bN bO f.ig,bS x.AL f.aA.length x.cl,bS x.AS f.lists.length x.cs,bS x.AI f.items.length x.ci,bS none 0 0,.map (some a.heap.size),.map (some (a.heap.size+1)),.map (some (a.heap.size+1+1))] 115 (0,0));rw[E];simpa using h
 have Q:ag W5 (a.heap.size+1+1+1) 115 #[bR f.nm,bN bO f.ig,bS x.AL f.aA.length x.cl,bS x.AS f.lists.length x.cs,bS x.AI f.items.length x.ci,bS none 0 0,.map (some a.heap.size),.map (some (a.heap.size+1)),.map (some (a.heap.size+1+1))]:=by
  have h:=ag.new (((a.alloc (.map #[] 0)).alloc (.map #[] 0)).alloc (.map #[] 0)) 115 #[bR f.nm,bN bO f.ig,bS x.AL f.aA.length x.cl,bS x.AS f.lists.length x.cs,bS x.AI f.items.length x.ci,bS none 0 0,.map (some a.heap.size),.map (some (a.heap.size+1)),.map (some (a.heap.size+1+1))];rw[E];simpa using h
 have X:=v.below H v.lt;have an:=v.lt;have C:=Z.size;rw[<- E];clear E q0 q1 q2 q3 q4;obtain⟨gb,G⟩:=af (a.heap.size+1+1+1);rw[G] at Q ⊢;obtain⟨m3,M⟩:=af (a.heap.size+1+1);rw[M] at Q M3 ⊢;obtain⟨m2,N⟩:=af (a.heap.size+1);rw[N] at Q M2 ⊢;obtain⟨m1,I⟩:=af (a.heap.size);have uO:=Z.trans (H.mono C);rw[I] at Q M1 ap an C ⊢;have HM:=qh (b5 G (b5 M (b5 N I)));have n1:m1<m2:=by omega
 have n2:m2<m3:=by omega
 have n3:m3<gb:=by omega
 have n4:gb<W5.heap.size:=by omega
 have al:mP W5 w.heap.size gb m1 m2 m3 W5.heap.size x none 0 f [] []:=⟨Q,DN.nil,⟨[],M1,λ s=>rfl,ca _⟩,⟨by omega,by omega,n4,by omega,by omega⟩,ca _,cc _⟩;have KA:=qh (show Calls Tryz.prog 111 #[bX (some ⟨gb,0,none⟩),bS x.AI f.items.length x.ci,bN bO (-1),bN bO 1,bS none 0 0] W5 λ e w'=>e = b0 (.tuple #[])/\acs w.heap.size gb m1 m2 m3 W5.heap.size x f (aC f) W5 w' from
  ZK f.items W5 [] none x.AI none 0 x.ci 0 (-1) 1 [] al (q.o.it.keep (λ _ _ h=>h.keep uO) uO) q.o.ii (World.ownsRow_nil _ _ _ _) (λ s h=>by cases h) (by omega) (cc _))
 have q4:=X.cell 4;clear al Q M1 G M N I H v hf;go_upto_region 3 with (go_at_call 111;(with_reducible refine KA.o.mono ?_);rintro e1 w6 ⟨rfl,A6,c6,P6,F6⟩);have X:ag w6 w.heap.size 26 (BO f x):=(F6.old _ (by omega) (by omega) (by omega)).trans X;have M2:=qh (M2.same (F6.old m2 (by omega) (by omega) (by omega)));have M3:=qh (M3.same (F6.old m3 (by omega) (by omega) (by omega)));have aa:=uO.trans (F6.below (B0:=w.heap.size) (by omega) (by omega) (by omega));have P6:=qh P6;obtain⟨AS,F⟩:=af (x.AS);obtain⟨cS,J⟩:=af (x.cs);have q3:w6.cell? ⟨w.heap.size,3,none⟩=some (bS AS f.lists.length cS):=by rw[X.cell 3,<- F,<- J];rfl
 obtain⟨L,hL⟩:=af (f.lists);rw[hL] at q3;have HL:=qh (show au dW 2 w w.heap.size AS L/\L.length<=cS/\f.lists=L from ⟨F▸hL▸q.o.ls,J▸hL▸q.o.li,hL⟩);have aq:=HL.o.1.1;unfold maxLen at aq;clear KA X F6 q4 F J hL;go_wp2;clear q3;go_loopw [21] (λ i wr=>∃ (k:Nat) (o:List (ByteArray × Value)),i = bN bO k/\k<=L.length/\Hid (aS wr m2 o/\Fb wr w.heap.size o (L.take k)/\o.length<=k)/\Hid (w6.grownBy wr (some m2))) (λ i _=>L.length+1 - (intOf i).toNat)
 case atStart=>exact⟨0,[],rfl,cc _,qh ⟨M2.o,λ s=>rfl,ca _⟩,qh (World.grownBy.refl _ _)⟩
 case round =>
  obtain⟨k,o,rfl,hk,z,O⟩:=hrel;have P:=P6.o.other O.o (by omega) (by omega) (by omega) (by omega);have g7:wr.cell? ⟨gb,7,none⟩=some (.map (some m2)):=P.blk.cell 7;have D:=aa.grown O.o aa.size (λ g e=>by injection e;omega);by_cases hlt:k<L.length
  case neg =>
   obtain rfl:k=L.length:=by omega
   have HP:=qh P;have K:=qh D;clear P D;go_wp2;go_ret;obtain⟨l1,l2,-⟩:=z.o;rw[List.take_length] at l2;obtain⟨N1,N2⟩:=HP.o.nodes (show m3<_ by omega);obtain⟨mV,b1,b2,-⟩:=HP.o.Qh;have V:=M3.o.kept O.o (λ e=>by injection e;omega);exact⟨⟨gb,m1,m2,m3,A6,c6,rfl,⟨HP.o.blk,⟨q.o.nm,q.o.la.keep K.o,q.o.ls.keep (λ _ _ h=>h.keep K.o) K.o,q.o.li,q.o.it.keep (λ _ _ h=>h.keep K.o) K.o,q.o.ii⟩,N1,N2,⟨mV,b1,b2⟩,⟨o,l1,HL.o.2.2.symm▸l2⟩,⟨[],V,λ s=>rfl⟩,⟨by omega,by omega,by omega,by omega,by omega,by omega,by omega⟩,K.o.size⟩,⟨[],V,λ s=>rfl,ca _⟩⟩,K.o⟩
  obtain⟨ad,ci,rfl,aw,ax,j⟩:=au.at_ (au.keep (λ _ _ h=>h.keep D) HL.o.1 D) hlt;obtain⟨A,c,rfl,am,Y,r⟩:=ax;have ac:=qh (show dW wr w.heap.size L[k] (Hw L[k] A c) from ⟨A,c,rfl,am,Y,r⟩);have T:=qh (λ (w':World) (h:Fb w' w.heap.size o (L.take k)) (p:eX (L.take k) L[k].nm=none) (hl:dW w' w.heap.size L[k] (Hw L[k] A c))=>ZL h hlt p hl);have ae:=qh (λ (w':World) (h:Fb w' w.heap.size o (L.take k)) (p:¬ eX (L.take k) L[k].nm=none)=>ZM h hlt p);obtain⟨d,hd⟩:=af (L[k]);have S:=qh hlt;rw[hd] at j r ac T ae;have p0:wr.cell? (ad.add (k*2))=some (.string d.nm):=j 0 _ rfl;have p1:wr.cell? ⟨(ad.add (k*2)).block,(ad.add (k*2)).off+1,none⟩=some (.slice A d.os.length c):=j 1 _ rfl;obtain⟨W,hW,R,BW⟩:=box wr 92 #[.string d.nm,.slice A d.os.length c];have aM:=D.trans (R.mono D.size);have r0:=BW.cell 0;have r1:=BW.cell 1;have g7:=Below.cell_of R g7;have U:=R.size;have u:=D.size;have ay:wr.heap.size<W.heap.size:=BW.lt;have aD:gb<W.heap.size:=ce (ce n4 (b4 P6.o.le O.o.size)) U;clear j hd aw am Y P;go_upto_region 6 with (fail);rw[<- hW];clear p0 p1 hW;have xU:=qh (z.o.1.below R z.o.1.lt);have b:=z.o.2.1 d.nm;have aE:=z.o.2.2;have m:=λ (w':World) (h:aS w' m2 o)=>h.look Tryz.underlying113 (SI w') r;have ak:∀ cs,EG wr (W.alloc (.cells cs 92 (0,0))).drew:=λ cs=>R.trans ((aB W _).drew.mono U);have n:=qh ak;have av:=qh (show o.length<maxLen by have:=S.o;unfold maxLen;omega);clear ak;by_cases p:eX (L.take k) d.nm=none
  case neg =>
   obtain⟨l9,A9,c9,b⟩:∃ l A c,gz o d.nm=some (.agg (Hw l A c).toArray):=by
    cases hq:eX (L.take k) d.nm with
    | none=>exact absurd hq p
    | some l=>rw[hq] at b;obtain⟨A9,c9,e,-⟩:=b;exact⟨l,A9,c9,e⟩
   simp only[b,Option.getD_some,Option.isSome_some] at m;have t:=m W.drew (xU.o.same rfl);have y:=m (W.alloc (.cells #[bR ⟨#[]⟩,bS none 0 0] 92 (0,0))).drew ((xU.o.alloc _).same rfl);simp only[Hw] at t y;have HN:=qh p;clear m b p;go_region
   all_goals
    clear t y;go_wp2;go_roundw
    case rel=>exact⟨k+1,o,by go_num,S.o,qh ⟨z.o.1.below (n.o _) z.o.1.lt,ae.o _ (z.o.2.1.keep ((n.o _).mono u)) HN.o,by omega⟩,qh (mO O.o (grown_of (n.o _) _))⟩
    case measure =>
     have:=S.o;simp[intOf];omega
  rw[p] at b;have b:gz o d.nm=none:=b;simp only[b,Option.getD_none,Option.isSome_none] at m;have t:=m W.drew (xU.o.same rfl);have y:=m (W.alloc (.cells #[bR ⟨#[]⟩,bS none 0 0] 92 (0,0))).drew ((xU.o.alloc _).same rfl);have HN:=qh p;clear m b p;go_region
  all_goals
   clear t y;obtain⟨W9,aA,ar,B⟩:=(show aS (W.alloc (.cells #[.string ⟨#[]⟩,.slice none 0 0] 92 (0,0))).drew.drew m2 o from (xU.o.alloc _).same rfl).put Tryz.underlying113 av.o r (.agg #[.string d.nm,.slice A d.os.length c]);go_upto_region 8 with (fail);go_region;have aL:EG w W9:=(D.trans (((n.o _).drew).mono u)).grown B (by simp;omega) (λ g e=>by injection e;omega);go_wp2;go_roundw
   case rel=>exact⟨k+1,_,by go_num,S.o,qh ⟨ar,T.o _ (z.o.2.1.keep (((n.o _).drew.mono u).grown B (by simp;omega) (λ g e=>by injection e;omega))) HN.o (ac.o.keep (((n.o _).drew.mono u).grown B (by simp;omega) (λ g e=>by injection e;omega))),by simp;omega⟩,qh (mO O.o (mO (grown_of (n.o _).drew _) B))⟩
   case measure =>
    have:=S.o;simp[intOf];omega
end Go.Proofs.YtcnagconagpkcaaGreatDoor
namespace Go.Proofs.YtcnagconagpkcaaGreatDoor
def ZN (acc:List ah) (lo:List ByteArray):Prop:=lo = []\/∃ p:Nat,∃ h:p<acc.length,acc[p].it.k=3/\lo=acc[p].lo ++ [acc[p].it.nm]
def aeW (N:List ah):Prop:=∀ i (h:i<N.length),ZN (N.take i) N[i].lo
theorem ZN.more {a:List ah} {lo:List ByteArray} (h:ZN a lo) (t:List ah):ZN (a ++ t) lo:=by
 rcases h with h | ⟨p,b,c,d⟩
 .exact .inl h
 .exact .inr ⟨p,by rw[cb];omega,by rw[co b];exact c,by rw[co b];exact d⟩
theorem aeW.snoc {N:List ah} (h:aeW N) {d:ah} (b:ZN N d.lo):aeW (N ++ [d]):=by
 intro i a;rw[cb] at a;by_cases hl:i<N.length
 .rw[co hl,List.take_append_of_le_length (by omega)];exact h i hl
 .have:i=N.length:=by simp at a;omega
  subst this;simpa using b
theorem GG {N:List ah} {L:List aW}:∀ (f n:Nat),N.length<n+f->wu N L f n=0->∀ i,n<=i->i<N.length->oV N L i=0
 | 0,n,h,_,i,h1,h2=>by omega
 | f+1,n,h,h0,i,h1,h2=>by
  rw[wu,if_pos (by omega)] at h0;by_cases hs:oV N L n=0
  .rw[if_neg (λ h=>h hs)] at h0;by_cases e:i=n
   .rw[e];exact hs
   .exact GG f (n+1) (by omega) h0 i (by omega) h2
  .rw[if_pos hs] at h0;exact absurd h0 hs
structure aeX (N:List ah):Prop where
 nm:∀ d∈N,bz d.it.nm.data.toList=true
 one:∀ i j (h:i<N.length) (h':j<i),N[j].it.nm≠N[i].it.nm
 ak:∀ d∈N,d.it.k=4->2<=d.it.ans.k/\d.it.ans.k<=6
 cm:∀ d∈N,d.it.k=5->d.it.cmp.length=1
 cm':∀ d∈N,¬ d.it.k=5->d.it.cmp = []
 len:N.length<=300
theorem OY {N:List ah} {L:List aW} (h:jh N L=0):aeX N:=by
 unfold jh at h;by_cases hz:yh N=0
 case neg=>rw[if_pos hz] at h;exact absurd h hz
 rw[if_neg (λ h=>h hz)] at h;have l:=GG (N:=N) (L:=L) (N.length+1) 0 (by omega) h;have key:∀ i (a:i<N.length),bz N[i].it.nm.data.toList=true/\(∀ j (f:j<i),N[j].it.nm≠N[i].it.nm)/\(N[i].it.k=4->2<=N[i].it.ans.k/\N[i].it.ans.k<=6)/\vZ N[i].it=false:=by
  intro i a;have:=l i (cc _) a;unfold oV at this;rw[iY a] at this;dsimp only at this;split at this
  .exact absurd this (by decide)
  split at this
  .exact absurd this (by decide)
  split at this
  .exact absurd this (by decide)
  split at this
  .exact absurd this (by decide)
  split at this
  .exact absurd this (by decide)
  rename_i q p g n o;refine⟨by cases hq:bz N[i].it.nm.data.toList <;> simp_all,λ j m e=>g (List.any_eq_true.2 ⟨N[j],?_,by simpa using e⟩),λ k=>?_,by cases hq:vZ N[i].it <;> simp_all⟩
  .rw[List.mem_take_iff_getElem];exact⟨j,by omega,rfl⟩
  .rw[if_pos k] at this;unfold Nh at this;split at this
   .exact absurd this (by decide)
   .rename_i b1;unfold bu at b1;simp at b1;omega
 refine⟨λ d b=>?_,λ i j h f=>(key i h).2.1 j f,λ d b=>?_,λ d b c=>?_,λ d b c=>?_,?_⟩
 .obtain⟨i,a,rfl⟩:=cj.1 b;exact (key i a).1
 .obtain⟨i,a,rfl⟩:=cj.1 b;exact (key i a).2.2.1
 .obtain⟨i,a,rfl⟩:=cj.1 b;have:=(key i a).2.2.2;unfold vZ at this;simp[c] at this;omega
 .obtain⟨i,a,rfl⟩:=cj.1 b;have:=(key i a).2.2.2;unfold vZ at this;simp[c] at this;exact List.length_eq_zero_iff.1 (by simp[this])
 .unfold yh at hz;split at hz
  .exact absurd hz (by decide)
  .omega
theorem ZO {f:aG} (h:dh f=0):jh (aC f) f.lists=0/\yj (aC f) f.lists f.aA.length ((aC f).length+1) 0 []=(0,(o9 f).2):=by
 unfold dh at h;have e:o9 f=(0,(o9 f).2):=by rw[<- h]
 generalize b:(o9 f).2=K at e ⊢;unfold o9 at e;split at e
 .rename_i a;exact absurd (congrArg Prod.fst e) a
 split at e
 .rename_i a;exact absurd (congrArg Prod.fst e) a
 split at e
 .rename_i a;exact absurd (congrArg Prod.fst e) a
 .rename_i a;exact⟨Decidable.not_not.1 a,e⟩
theorem KH {N:List ah} (c:aeX N) {i:Nat} (a:i<N.length):bG N N[i].it.nm=i:=by
 unfold bG;have:N.findIdx? (λ d=>decide (d.it.nm=N[i].it.nm))=some i:=by
  rw[List.findIdx?_eq_some_iff_getElem];exact⟨a,by simp,λ j b=>by simpa using c.one i j a b⟩
 rw[this]
end Go.Proofs.YtcnagconagpkcaaGreatDoor
namespace Go.Proofs.YtcnagconagpkcaaGreatDoor
open Go.RowKit
attribute [local go_sem ↓] Go.wp_at_zero Go.wp_at_succ
set_option maxHeartbeats 4000000
set_option maxRecDepth 100000
def zh (N:List ah):Prop:=∀ d∈N,(∀ e∈d.it.iff,e.parts<=1000000)/\(∀ e∈d.it.cnt,e.parts<=1000000)/\(∀ e∈d.it.cmp,e.parts<=1000000)/\(∀ e∈d.it.ans.only,e.parts<=1000000)/\∀ r∈d.it.ans.ch,r.must.parts<=1000000
def wW (f:aG) (x:ku) (e:Ending) (w':World):Prop:=(dh f≠0/\e = b0 (.tuple #[bX none,bN bO (dh f)])) \/
 (dh f=0/\∃ B0 gb m1 m2 m3 A c,e = b0 (.tuple #[bX (some ⟨gb,0,none⟩),bN bO 0])/\aJ w' B0 gb m1 m2 m3 {x with AN:=A,cn:=c} f (aC f) (o9 f).2)
theorem gQ.up {w:World} {B B':Nat} {f:aG} {x:ku} (h:gQ w B f x) (a:B<=B'):gQ w B' f x:=
 ⟨h.nm,h.la.up a,h.ls.Qe (λ _ _ h=>h.up a) a,h.li,h.it.Qe (λ _ _ h=>h.up a) a,h.ii⟩
theorem Rj {N:List ah} {L:List aW} {a k:Nat} {K:aV} (h:k<N.length):yj N L a (N.length+1 - k) k K=if (vz N L K a k).1≠0 then vz N L K a k else yj N L a (N.length+1 - (k+1)) (k+1) (vz N L K a k).2:=by
 obtain⟨m,b⟩:∃ m,N.length+1 - k=m+1:=⟨N.length - k,by omega⟩;rw[b,show N.length+1 - (k+1)=m by omega,yj,if_pos h]
theorem VV {N:List ah} {L:List aW} {a:Nat} {K:aV}:yj N L a (N.length+1 - N.length) N.length K=(0,K):=by
 rw[show N.length+1 - N.length=0+1 by omega,yj,if_neg (by omega)]
theorem alY {f:aG} (h:ql f≠0):dh f=ql f:=by unfold dh o9;rw[if_pos h]
theorem alZ {f:aG} (a:ql f=0) (h:kG f≠0):dh f=kG f:=by unfold dh o9;rw[if_neg (λ q=>q a),if_pos h]
theorem al0 {f:aG} (b:ql f=0) (a:kG f=0) (h:jh (aC f) f.lists≠0):dh f=jh (aC f) f.lists:=by unfold dh o9;rw[if_neg (λ q=>q b),if_neg (λ q=>q a),if_pos h]
theorem al1 {f:aG} (b:ql f=0) (a:kG f=0) (c:jh (aC f) f.lists=0):o9 f=yj (aC f) f.lists f.aA.length ((aC f).length+1 - 0) 0 []:=by unfold o9;rw[if_neg (λ q=>q b),if_neg (λ q=>q a),if_neg (λ q=>q c)];rfl
theorem Rk {w:World} {f:aG} {x:ku} (hf:gQ w w.heap.size f x) (Q:zh (aC f)) (B:Tab w) (aa:Mx w) :
  Calls Tryz.prog 34 #[.agg (BO f x)] w λ e w'=>wW f x e w'/\EG w w':=by
 obtain⟨W1,Y,o,O⟩:=box w 26 (BO f x);have q0:=O.cell 0;have q1:=O.cell 1;have q2:=O.cell 2;have q3:=O.cell 3;have q4:=O.cell 4;have HF:=qh (b5 hf (b5 Q (λ w' (q:EG w w')=>b5 (aF B q) (aa.below q))));have KO:=qh (open_any (w:=W1) (f:=f) (x:=x) ((hf.keep (o)).up o.size));clear hf Q B aa;go_enter Tryz.func34,Tryz.ntmps34;go_upto_region 1 with (fail);rw[<- Y];clear Y;go_upto_region 3 with (go_at_call 70;(with_reducible refine KO.o.mono ?_);rintro e1 d ⟨⟨gb,m1,m2,m3,A,c,rfl,X,E⟩,xW⟩);obtain⟨s,T⟩:=af (d.heap.size);obtain⟨W3,p⟩:∃ W',W'=(d.alloc (.cells #[bX (some ⟨gb,0,none⟩)] 156 (0,0))).alloc (.cells #[.func (.func 71) #[bX (some ⟨d.heap.size,0,none⟩)] #[],.func (.func 72) #[bX (some ⟨d.heap.size,0,none⟩)] #[],.func (.func 73) #[bX (some ⟨d.heap.size,0,none⟩)] #[]] 122 (0,0)):=⟨_,rfl⟩;have u:EG d W3:=p▸((Below.refl _ d).alloc (ca _) _).alloc (by simp) _;have M:ag W3 d.heap.size 156 #[bX (some ⟨gb,0,none⟩)]:=p▸(ag.new d _ _).alloc _;have BR:ag W3 (d.heap.size+1) 122 #[.func (.func 71) #[bX (some ⟨d.heap.size,0,none⟩)] #[],.func (.func 72) #[bX (some ⟨d.heap.size,0,none⟩)] #[],.func (.func 73) #[bX (some ⟨d.heap.size,0,none⟩)] #[]]:=by
  have h:=ag.new (d.alloc (.cells #[bX (some ⟨gb,0,none⟩)] 156 (0,0))) 122 #[.func (.func 71) #[bX (some ⟨d.heap.size,0,none⟩)] #[],.func (.func 72) #[bX (some ⟨d.heap.size,0,none⟩)] #[],.func (.func 73) #[bX (some ⟨d.heap.size,0,none⟩)] #[]];rw[p];simpa using h
 rw[<- p];have bT:=o.trans (xW.mono o.size);have y:=bT.trans (u.mono bT.size);have H:=E.choose_spec.1.lt;rw[T] at M BR H ⊢;have lg:=qh (show ∀ w',EG W3 w'->aJ w' W1.heap.size gb m1 m2 m3 {x with AN:=A,cn:=c} f (aC f) []/\w'.cell? ⟨s,0,none⟩=some (bX (some ⟨gb,0,none⟩))/\s<w'.heap.size/\Tab w'/\Mx w'/\Aj w' m3 [] 0/\(w'.cell? ⟨s+1,0,none⟩=some (.func (.func 71) #[bX (some ⟨s,0,none⟩)] #[])/\w'.cell? ⟨s+1,1,none⟩=some (.func (.func 72) #[bX (some ⟨s,0,none⟩)] #[])/\w'.cell? ⟨s+1,2,none⟩=some (.func (.func 73) #[bX (some ⟨s,0,none⟩)] #[]))/\EG w w' from λ w' U=>by
  have h3:=u.trans (U.mono u.size);have hw:=y.trans (U.mono y.size);have B2:=BR.below U BR.lt;exact⟨X.keep h3,(M.below U M.lt).cell 0,(M.below U M.lt).lt,(HF.o.2.2 w' hw).1,(HF.o.2.2 w' hw).2,E.keep h3,⟨B2.cell 0,B2.cell 1,B2.cell 2⟩,hw⟩)
 have L:=qh (b5 H (b5 o.size (zK f)));clear p T u M BR q0 q1 q2 q3 q4 X E xW KO O H;go_loopw [22] (λ i wr=>∃ k:Nat,i = bN bO k/\k<=3/\Hid ((0<k->ql f=0)/\(1<k->kG f=0)/\(2<k->jh (aC f) f.lists=0))/\EG W3 wr) (λ i _=>4 - (intOf i).toNat)
 case atStart=>exact⟨0,rfl,by omega,qh ⟨λ h=>absurd h (by decide),λ h=>absurd h (by decide),λ h=>absurd h (by decide)⟩,Below.refl _ _⟩
 case round =>
  obtain⟨k,rfl,hk,J,q⟩:=hrel;obtain⟨b1,b2,b3,b6,b7,b9,⟨t0,t1,t2⟩,b8⟩:=lg.o wr q;obtain rfl | rfl | rfl | rfl:k=0\/k=1\/k=2\/k=3:=by omega
  .obtain⟨r,b⟩:=af (ql f);have z:=qh (b▸XV b1 b2 b3);by_cases h0:r=0
   case neg =>
    have n:=qh (show dh f=r from (alY (b▸h0)).trans b);obtain⟨F,m⟩:=gp h0;have I:=qh h0;clear b h0;go_wp2_with (go_at_call 71;(with_reducible refine z.o.mono ?_);rintro S R ⟨rfl,a⟩);go_ret2;exact⟨.inl ⟨by rw[n.o];exact I.o,by rw[n.o];rfl⟩,b8.trans (a.mono b8.size)⟩
   have l:=qh (show ql f=0 from b.trans h0);obtain⟨F,m⟩:=jf h0;clear b h0;go_wp2_with (go_at_call 71;(with_reducible refine z.o.mono ?_);rintro S R ⟨rfl,a⟩);go_roundw
   case rel=>exact⟨1,by first | rfl | go_num,by omega,⟨λ _=>l.o,λ h=>absurd h (by decide),λ h=>absurd h (by decide)⟩ |> Lib.hid,q.trans (a.mono q.size)⟩
   case measure=>simp[intOf]
  .obtain⟨r,b⟩:=af (kG f);have z:=qh (b▸Rh b1 b2 b3 L.o.2.2 b6 b7);by_cases h0:r=0
   case neg =>
    have n:=qh (show dh f=r from (alZ (J.o.1 (by decide)) (b▸h0)).trans b);obtain⟨F,m⟩:=gp h0;have I:=qh h0;clear b h0;go_wp2_with (go_at_call 72;(with_reducible refine z.o.mono ?_);rintro S R ⟨rfl,a⟩);go_ret2;exact⟨.inl ⟨by rw[n.o];exact I.o,by rw[n.o];rfl⟩,b8.trans (a.mono b8.size)⟩
   have l:=qh (show ql f=0/\kG f=0 from ⟨J.o.1 (by decide),b.trans h0⟩);obtain⟨F,m⟩:=jf h0;clear b h0;go_wp2_with (go_at_call 72;(with_reducible refine z.o.mono ?_);rintro S R ⟨rfl,a⟩);go_roundw
   case rel=>exact⟨2,by first | rfl | go_num,by omega,⟨λ _=>l.o.1,λ _=>l.o.2,λ h=>absurd h (by decide)⟩ |> Lib.hid,q.trans (a.mono q.size)⟩
   case measure=>simp[intOf]
  .obtain⟨r,b⟩:=af (jh (aC f) f.lists);have z:=qh (b▸Qo b1 b2 b3 L.o.2.2);by_cases h0:r=0
   case neg =>
    have n:=qh (show dh f=r from (al0 (J.o.1 (by decide)) (J.o.2.1 (by decide)) (b▸h0)).trans b);obtain⟨F,m⟩:=gp h0;have I:=qh h0;clear b h0;go_wp2_with (go_at_call 73;(with_reducible refine z.o.mono ?_);rintro S R ⟨rfl,a⟩);go_ret2;exact⟨.inl ⟨by rw[n.o];exact I.o,by rw[n.o];rfl⟩,b8.trans (a.mono b8.size)⟩
   have l:=qh (show ql f=0/\kG f=0/\jh (aC f) f.lists=0 from ⟨J.o.1 (by decide),J.o.2.1 (by decide),b.trans h0⟩);obtain⟨F,m⟩:=jf h0;clear b h0;go_wp2_with (go_at_call 73;(with_reducible refine z.o.mono ?_);rintro S R ⟨rfl,a⟩);go_roundw
   case rel=>exact⟨3,by first | rfl | go_num,by omega,⟨λ _=>l.o.1,λ _=>l.o.2.1,λ _=>l.o.2.2⟩ |> Lib.hid,q.trans (a.mono q.size)⟩
   case measure=>simp[intOf]
  obtain⟨z1,z2,z3⟩:=J.o;have HS:=qh (OY (z3 (by decide)));have HD:=qh (al1 (z1 (by decide)) (z2 (by decide)) (z3 (by decide)));have c5:wr.cell? ⟨gb,5,none⟩=some (bS A (aC f).length c):=b1.blk.cell 5;have v:=qh (b5 b1 (b5 b9 b8));have ad:=b1.ne.2.2.1;have ae:=b9.choose_spec.1.lt;have su:=b1.nodes.1;clear z1 z2 z3 b1 b9 b6 b7 t0 t1 t2;obtain⟨N,hN⟩:=af (aC f);rw[hN] at c5 su;have l:=qh hN;clear hN;rw[show ((3:Nat):Int)=3 from rfl];go_wp2;clear c5;go_loopw [40] (λ i w5=>∃ (k:Nat) (K:aV),i = bN bO k/\k<=N.length/\Hid (o9 f=yj N f.lists f.aA.length (N.length+1 - k) k K)/\Hid (aJ w5 W1.heap.size gb m1 m2 m3 {x with AN:=A,cn:=c} f N K/\Aj w5 m3 K k)/\Hid (wr.grownBy w5 (some m3))) (λ i _=>N.length+1 - (intOf i).toNat)
  case atStart=>exact⟨0,[],rfl,cc _,l.o▸HD,l.o▸qh ⟨v.o.1,v.o.2.1⟩,qh (World.grownBy.refl _ _)⟩
  case round =>
   obtain⟨j,K,rfl,hj,HP,HK,HG⟩:=hrel;have ac:some s≠some m3:=λ e=>by injection e with e;have:=L.o.1;omega
   have V:=HG.o.cell b2 ac;have P:=HG.o.size;have t:=v.o.2.2.grown HG.o v.o.2.2.size (λ g e=>by injection e with e;have:=L.o.2.1;omega);by_cases hlt:j<N.length
   case neg =>
    obtain rfl:j=N.length:=by omega
    have n:=qh (HP.o.trans VV);have HR:=qh HK.o.1;clear b2;go_wp2;go_ret2;exact⟨.inr ⟨by unfold dh;rw[n.o],W1.heap.size,gb,m1,m2,m3,A,c,rfl,by rw[l.o,n.o];exact HR.o⟩,t⟩
   obtain⟨s1,s2,s3,s4,s5⟩:=HF.o.2.1 N[j] (by rw[l.o];exact ck hlt);have C:=HF.o.2.2 _ t;have W:eH N:=l.o▸L.o.2.2;have Z:aeX N:=l.o▸HS.o;have KM:=qh (OW HK.o.1 V (ce b3 P) W hlt (by omega) HK.o.2 s1 s2 s3 s4 s5 (Z.cm _ (ck hlt)) C.1 C.2);have G:=qh (HP.o.trans (Rj hlt));obtain⟨r,b⟩:=af (vz N f.lists K f.aA.length j);rw[b] at KM G;have aX:=qh hlt;clear s1 s2 s3 s4 s5 C W Z b V b2;by_cases h0:r.1=0
   case neg =>
    have n:=qh (show dh f=r.1 by unfold dh;rw[G.o,if_pos h0]);have I:=qh h0;obtain⟨F,m⟩:=gp h0;clear h0;go_wp2_with (go_at_call 74;(with_reducible refine KM.o.mono ?_);rintro e6 w6 ⟨rfl,h6,-,D⟩);go_ret2;exact⟨.inl ⟨by rw[n.o];exact I.o,by rw[n.o];rfl⟩,t.grown D t.size (λ g e=>by injection e with e;have:=L.o.2.1;omega)⟩
   have Jf:=qh (G.o.trans (if_neg (λ h=>h h0)));obtain⟨F,m⟩:=jf h0;clear h0;go_wp2_with (go_at_call 74;(with_reducible refine KM.o.mono ?_);rintro e6 w6 ⟨rfl,h6,ab,D⟩);go_roundw
   case rel=>exact⟨j+1,r.2,by go_num,aX.o,Jf,qh ⟨h6,ab⟩,qh (mO HG.o D)⟩
   case measure =>
    have:=aX.o;simp[intOf];omega
set_option maxHeartbeats 4000000
set_option maxRecDepth 100000
theorem Jm {w:World} {f:aG} {x:ku} (n:gQ w w.heap.size f x) (i:zh (aC f)) (b:Tab w) (j:Mx w) :
  Calls Tryz.prog 22 #[.agg (BO f x)] w λ e w'=>wW f x e w'/\EG w w':=by
 obtain⟨u,h,a,k⟩:=box w 26 (BO f x);have v:=k.cell 0;have B:=k.cell 1;have r:=k.cell 2;have z:=k.cell 3;have y:=k.cell 4;have p:=qh (Rk ((n.keep a).up a.size) i (aF b a) (j.below a));clear n i b j;go_enter Tryz.func22,Tryz.ntmps22;go_upto_region 1 with (fail);rw[<- h];clear h;go_wp2_with (go_at_call 34;(with_reducible refine p.o.mono ?_);rintro s t ⟨q,o⟩;have m:=qh (a.trans (o.mono a.size));clear o;rcases q with ⟨d,rfl⟩ | ⟨d,B0,gb,m1,m2,m3,A,c,rfl,g⟩)
 .have l:=qh d;clear d;go_wp2;go_ret2;exact⟨.inl ⟨l.o,rfl⟩,m.o⟩
 .have l:=qh (b5 d g);clear d g;go_wp2;go_ret2;exact⟨.inr ⟨l.o.1,B0,gb,m1,m2,m3,A,c,rfl,l.o.2⟩,m.o⟩
theorem s4 {w:World} {g:Nat} {T:TypeId} {d c b a:Value} (h:ag w g T #[d,c,b,a]):w.cell? ⟨g,0,none⟩=some d/\w.frozen? ⟨g,0,none⟩=false/\w.cell? ⟨g,1,none⟩=some c/\w.frozen? ⟨g,1,none⟩=false/\w.cell? ⟨g,2,none⟩=some b/\w.frozen? ⟨g,2,none⟩=false/\w.cell? ⟨g,3,none⟩=some a/\w.frozen? ⟨g,3,none⟩=false:=⟨h.cell 0,h.frozen 0,h.cell 1,h.frozen 1,h.cell 2,h.frozen 2,h.cell 3,h.frozen 3⟩
end Go.Proofs.YtcnagconagpkcaaGreatDoor
namespace Go.Proofs.YtcnagconagpkcaaGreatDoor
open Go.RowKit
set_option maxHeartbeats 4000000
set_option maxRecDepth 100000
structure aU (g:Nat) (w w':World):Prop where
 os:w'.os=w.os
 tape:w'.tape=w.tape
 output:w'.output=w.output
 size:w'.heap.size=w.heap.size
 far:∀ k,k≠g->w'.heap[k]?=w.heap[k]?
theorem aU.refl (g:Nat) (w:World):aU g w w:=⟨rfl,rfl,rfl,rfl,λ _ _=>rfl⟩
theorem aU.set {g:Nat} {w w':World} (h:aU g w w') (i:Nat) (u:Value):aU g w (w'.setCell ⟨g,i,none⟩ u):=
 ⟨h.os,h.tape,h.output,by simp[World.setCell,h.size],λ k a=>(Below.heap_setCell w' ⟨g,i,none⟩ u k a).trans (h.far k a)⟩
theorem aU.below {g b:Nat} {w w':World} (h:aU g w w') (c:b<=g):Below b w w':=⟨h.os,h.tape,h.output,Nat.le_of_eq h.size.symm,λ k a=>h.far k (by omega)⟩
theorem aU.blk {g k:Nat} {w w':World} {T:TypeId} {cs:Array Value} (h:aU g w w') (a:ag w k T cs) (b:k≠g):ag w' k T cs:=(h.far k b).trans a
theorem aU.many {g:Nat} {w:World}:∀ (a:List Value) (o:Nat) {w':World},aU g w w'->aU g w (w'.setCells g o a)
 | [],_,_,h=>h
 | v :: r,o,_,h=>aU.many r (o+1) (h.set o v)
theorem ag.mid {g:Nat} {T:TypeId} {post:List Value}:∀ (b old a:List Value) {w:World},ag w g T (a ++ old ++ post).toArray->old.length=b.length->ag (w.setCells g a.length b) g T (a ++ b ++ post).toArray
 | [],old,a,w,h,hl=>by
  obtain rfl:old = []:=List.eq_nil_of_length_eq_zero hl;exact h
 | v :: r,x :: old,a,w,h,hl=>by
  have d:=h.dS a.length v;have e:(a ++ (x :: old) ++ post).toArray.setIfInBounds a.length v=((a ++ [v]) ++ old ++ post).toArray:=by simp
  rw[e] at d;have c:=ag.mid r old (a ++ [v]) d (by simpa using hl);rw[cb] at c;have f:(a ++ [v]) ++ r ++ post=a ++ (v :: r) ++ post:=by simp
  rw[f] at c;exact c
 | v :: r,[],a,w,h,hl=>by simp at hl
theorem VW {w:World} {g:Nat} {T:TypeId} {cs:Array Value} (h:ag w g T cs) (o n:Nat) (a:o+n<=cs.size):w.there g o n:=λ j b=>⟨by rw[h.cell,Array.getElem?_eq_getElem (by omega)];rfl,h.frozen _⟩
theorem TE {w:World} {g o:Nat} {T b:TypeId} {cs:Array Value} {a:List Value} (h:ag w g T cs) (e:o+a.length<=cs.size) (d:(Tryz.prog.info? b).map (·.size)=some a.length) (c:∀ v∈a,v.oneCell'=true) :
  (Hy b (bX (some ⟨g,o,none⟩)) (.agg a.toArray)).run Tryz.prog w = .ok () (w.setCells g o a):=
 run_storeAt_mid w g o b a.toArray (VW h o _ (by simpa using e)) (by simpa using d) (by rw[<- Array.all_toList];exact List.all_eq_true.2 c)
end Go.Proofs.YtcnagconagpkcaaGreatDoor
