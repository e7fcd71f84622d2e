/- Lemmas. -/
import Derived.Test.YtcnagconagpkcaaGreatDoorZ26
import Derived.Lib.SlicesCompact
set_option maxHeartbeats 16000000
set_option maxRecDepth 100000
open Go.Value renaming int->bk, string->bm, slice->bo, pointer->bp, bool->bq, int->b5, string->b7
open Go.IntKind renaming i64->bl
open Go.Ending renaming returned->br
open And renaming intro->bs
open Nat renaming le_trans->bt, le_refl->bK, add_sub_cancel->bR, mod_two_eq_zero_or_one->bS, zero_le->bT
open List renaming append_nil->bv, length_append->bw, take_zero->bB, append_assoc->bE, take_succ_eq_append_getElem->bL, take_length->bN, flatMap_nil->bO, length_cons->bX, length_set->b0, length_map->b9, length_filter_le->cb, getElem?_append_left->cc, getElem?_eq_some_iff->ce
open Go.Builtin renaming zeroCells->bA, clear_->b4
namespace Go.Proofs.YtcnagconagpkcaaGreatDoor
open Go.RowKit
attribute [local go_sem ↓] Go.wp_at_zero Go.wp_at_succ
attribute [local go_sem ↓] ld_item st_item ld_node st_node ld_ans st_ans ld_part st_part ld_rule st_rule ld_form st_form
attribute [local go_sem ↓] ld_form
set_option maxHeartbeats 4000000
set_option maxRecDepth 100000
theorem oN.Pn {w w':World} {B:Nat} {A:Option Addr} {L:List aW} {g:Nat} {F:List LK} (h:oN w B A L g F) (e:L = []\/∀ T cs,ag w g T cs->ag w' g T cs) (b:Below B w w'):oN w' B A L g F:=
 ⟨h.ad,h.lo,h.row.elim .inl λ q=>e.elim .inl λ k=>.inr (by obtain⟨a,d,f⟩:=q;exact⟨a,k _ _ d,f⟩),h.eq,λ p c=>(h.at_ p c).keep b⟩
theorem oN.lt {w:World} {B:Nat} {A:Option Addr} {L:List aW} {g:Nat} {F:List LK} (h:oN w B A L g F):L = []\/g<w.heap.size:=h.row.elim .inl λ ⟨_,q,_⟩=>.inr q.lt
theorem oN.keep {w w':World} {B:Nat} {A:Option Addr} {L:List aW} {g:Nat} {F:List LK} (h:oN w B A L g F) (a:EG w w') (b:B<=w.heap.size):oN w' B A L g F:=
 h.Pn (.inr λ T cs q=>q.below a q.lt) (a.mono b)
theorem xm {w w':World} {L:List aW} {g k:Nat} {T:TypeId} {cs:Array Value} (h:w'=w/\L = []\/L≠[]/\w.grownBy w' (some g)) (b:L = []\/k≠g) (q:ag w k T cs):ag w' k T cs:=by
 rcases h with ⟨rfl,-⟩ | ⟨a,c⟩
 .exact q
 .exact q.grown c (λ e=>b.resolve_left a (by injection e))
theorem Po {w w':World} {L:List aW} {g B:Nat} (h:w'=w/\L = []\/L≠[]/\w.grownBy w' (some g)) (a:B<=w.heap.size) (d:L = []\/B<=g):Below B w w':=by
 rcases h with ⟨rfl,-⟩ | ⟨b,c⟩
 .exact Below.refl _ _
 .exact (Below.refl B w).grown c a (λ k e=>by injection e with e;subst e;exact d.resolve_left b)
structure Q2 (w W cur:World) (La Lb:List aW) (o1 o2:Option (Value × Nat)):Prop where
 bel:EG W cur
 r1:∀ v g,o1=some (v,g)->∃ A c F,v = bo A La.length c/\La.length<=c/\oN cur w.heap.size A La g F/\(La = []\/W.heap.size<=g)
 r2:∀ v g,o2=some (v,g)->∃ A c F,v = bo A Lb.length c/\Lb.length<=c/\oN cur w.heap.size A Lb g F/\(Lb = []\/W.heap.size<=g)
 ne:∀ v g u h,o1=some (v,g)->o2=some (u,h)->La = []\/Lb = []\/g≠h
theorem Q2.later {w W a w':World} {k m:List aW} {j o2:Option (Value × Nat)} (h:Q2 w W a k m j o2) (l:w.heap.size<=W.heap.size) (d:EG a w'):Q2 w W w' k m j o2:=
 ⟨h.bel.trans (d.mono h.bel.size),λ v g e=>by obtain⟨A,c,F,b,i,e3,f⟩:=h.r1 v g e;exact⟨A,c,F,b,i,e3.keep d (bt l h.bel.size),f⟩,
  λ v g e=>by obtain⟨A,c,F,b,i,e3,f⟩:=h.r2 v g e;exact⟨A,c,F,b,i,e3.keep d (bt l h.bel.size),f⟩,h.ne⟩
structure Z2 (w W wd:World) (a b:aG) (x y:ku) (La Lb:List aW) (A1:Option Addr) (c1 g1:Nat) (F1:List LK) (A2:Option Addr) (c2 g2:Nat) (F2:List LK):Prop where
 ba:ag wd w.heap.size 26 #[bm a.nm,bk bl a.ig,bo x.AL a.aA.length x.cl,bo A1 La.length c1,bo x.AI a.items.length x.ci]
 bb:ag wd (w.heap.size+1) 26 #[bm b.nm,bk bl b.ig,bo y.AL b.aA.length y.cl,bo A2 Lb.length c2,bo y.AI b.items.length y.ci]
 r1:oN wd w.heap.size A1 La g1 F1
 r2:oN wd w.heap.size A2 Lb g2 F2
 k1:La.length<=c1
 k2:Lb.length<=c2
 ne:La = []\/Lb = []\/g1≠g2
 l1:La = []\/w.heap.size+2<=g1
 l2:Lb = []\/w.heap.size+2<=g2
 bel:EG w wd
theorem Q2.end_ {w W d:World} {a b:aG} {x y:ku} {f i:List aW} {m j:Option Addr} {k u n v:Nat} (h:Q2 w W d f i (some (bo m f.length k,u)) (some (bo j i.length n,v))) (Q:W.heap.size=w.heap.size+2) (l:EG w W)
  (M:ag d w.heap.size 26 #[bm a.nm,bk bl a.ig,bo x.AL a.aA.length x.cl,bo x.AS f.length x.cs,bo x.AI a.items.length x.ci]) (K:ag d (w.heap.size+1) 26 #[bm b.nm,bk bl b.ig,bo y.AL b.aA.length y.cl,bo y.AS i.length y.cs,bo y.AI b.items.length y.ci]) :
  ∃ O B N P G H z F2,Z2 w W ((d.setCell ⟨w.heap.size,3,none⟩ (bo m f.length k)).setCell ⟨w.heap.size+1,3,none⟩ (bo j i.length n)) a b x y f i O B N P G H z F2:=by
 obtain⟨A,c,F,r,L,I,l1⟩:=h.r1 _ _ rfl;obtain⟨A',c',D,s,J,E,t⟩:=h.r2 _ _ rfl;injection r with r _ e3;injection s with s _ e4;subst r s e3 e4;have C:=l.trans (h.bel.mono l.size);have e:Below w.heap.size d ((d.setCell ⟨w.heap.size,3,none⟩ (bo m f.length k)).setCell ⟨w.heap.size+1,3,none⟩ (bo j i.length n)):=((Below.refl _ d).setCell (p:=⟨w.heap.size,3,none⟩) (bK _) _).setCell (p:=⟨w.heap.size+1,3,none⟩) (Nat.le_succ _) _;have o:∀ g,W.heap.size<=g->∀ T cs,ag d g T cs->ag ((d.setCell ⟨w.heap.size,3,none⟩ (bo m f.length k)).setCell ⟨w.heap.size+1,3,none⟩ (bo j i.length n)) g T cs:=λ g R T cs q=>(q.far (p:=⟨w.heap.size,3,none⟩) (by show g≠w.heap.size;omega) _).far (p:=⟨w.heap.size+1,3,none⟩) (by show g≠w.heap.size+1;omega) _;exact⟨m,k,u,F,j,n,v,D,(M.dS 3 _).far (p:=⟨w.heap.size+1,3,none⟩) (by show w.heap.size≠w.heap.size+1;omega) _,(K.far (p:=⟨w.heap.size,3,none⟩) (by show w.heap.size+1≠w.heap.size;omega) _).dS 3 _,I.Pn (l1.imp id λ q=>o _ q) e,E.Pn (t.imp id λ q=>o _ q) e,L,J,h.ne _ _ _ _ rfl rfl,l1.imp id λ q=>by omega,t.imp id λ q=>by omega,C.trans e⟩
theorem Wh {w:World} {a b:aG} {x y:ku} (J:gQ w w.heap.size a x) (z:gQ w w.heap.size b y) (N:a.lists.length<=1000) (Q:b.lists.length<=1000) :
  Calls Tryz.prog 21 #[.agg (BO a x),.agg (BO b y)] w λ e w'=>(∃ La Lb:List aW,La.Perm a.lists/\Lb.Perm b.lists/\La.Pairwise (λ a b=>¬ b.nm.data.toList<a.nm.data.toList)/\Lb.Pairwise (λ a b=>¬ b.nm.data.toList<a.nm.data.toList)/\e = br (bq (bI {a with lists:=La} {b with lists:=Lb})))/\EG w w':=by
 obtain⟨W,hW,j,BA,BB,am⟩:=Ro w 26 26 (BO a x) (BO b y);obtain⟨m,Wi⟩:=af (a.lists);obtain⟨o,QJ⟩:=af (b.lists);have U:=J.ls;have O:=z.ls;unfold BO at BA BB hW;rw[Wi] at U N BA hW;rw[QJ] at O Q BB hW;have Ih:=qh (show ∀ d,EG W d->(ag d w.heap.size 26 #[bm a.nm,bk bl a.ig,bo x.AL a.aA.length x.cl,bo x.AS m.length x.cs,bo x.AI a.items.length x.ci]/\ag d (w.heap.size+1) 26 #[bm b.nm,bk bl b.ig,bo y.AL b.aA.length y.cl,bo y.AS o.length y.cs,bo y.AI b.items.length y.ci])/\d.cell? ⟨w.heap.size,3,none⟩=some (bo x.AS m.length x.cs)/\d.cell? ⟨w.heap.size+1,3,none⟩=some (bo y.AS o.length y.cs)/\d.frozen? ⟨w.heap.size,3,none⟩=false/\d.frozen? ⟨w.heap.size+1,3,none⟩=false from λ d z=>by
  have b1:=BA.below z BA.lt;have b2:=BB.below z BB.lt;exact⟨⟨b1,b2⟩,b1.cell 3,b2.cell 3,b1.frozen 3,b2.frozen 3⟩)
 have KA:=qh (show ∀ d o2,Q2 w W d m o none o2->Calls Tryz.prog 53 #[bo x.AS m.length x.cs] d λ e w'=>∃ A c g,e = br (bo A m.length c)/\Q2 w W w' m o (some (bo A m.length c,g)) o2 from λ d o2 q=>by
  have R:=j.trans (q.bel.mono j.size);refine (DI (c:=x.cs) (U.keep (λ _ _ h=>h.keep R) R) R.size N).mono λ e w' ⟨⟨A,c,g,F,he,h1,E,h3⟩,jl⟩=>?_;have q':=q.later j.size jl;refine⟨A,c,g,he,q'.bel,λ v g' e=>?_,q'.r2,λ v g' u h e e'=>?_⟩
  .injection e with e;injection e with e1 e2;subst e1 e2;exact⟨A,c,F,rfl,h1,h3,E.imp id λ k=>bt q.bel.size k⟩
  .injection e with e;injection e with e1 e2;subst e2;obtain⟨L,H,F2,-,-,r,-⟩:=q.r2 u h e';rcases E with E | E
   .exact .inl E
   .exact .inr (r.lt.imp id λ k=>by omega))
 have KB:=qh (show ∀ d o1,Q2 w W d m o o1 none->Calls Tryz.prog 53 #[bo y.AS o.length y.cs] d λ e w'=>∃ A c g,e = br (bo A o.length c)/\Q2 w W w' m o o1 (some (bo A o.length c,g)) from λ d o1 q=>by
  have R:=j.trans (q.bel.mono j.size);refine (DI (c:=y.cs) (O.keep (λ _ _ h=>h.keep R) R) R.size Q).mono λ e w' ⟨⟨A,c,g,F,he,h1,E,h3⟩,jl⟩=>?_;have q':=q.later j.size jl;refine⟨A,c,g,he,q'.bel,q'.r1,λ v g' e=>?_,λ v g' u h e e'=>?_⟩
  .injection e with e;injection e with e1 e2;subst e1 e2;exact⟨A,c,F,rfl,h1,h3,E.imp id λ k=>bt q.bel.size k⟩
  .injection e' with e';injection e' with e1 e2;subst e2;obtain⟨L,H,F2,-,-,r,-⟩:=q.r1 v g' e;rcases E with E | E
   .exact .inr (.inl E)
   .rcases r.lt with k | k
    .exact .inl k
    .exact .inr (.inr (by omega)))
 have G:=qh (show Q2 w W W m o none none from ⟨Below.refl _ _,λ _ _ e=>(by cases e),λ _ _ e=>(by cases e),λ _ _ _ _ e=>(by cases e)⟩);have an:=qh (bs (bs J Wi) (bs z QJ));have dH:=qh (bs j am);obtain⟨-,q1,q2,f1,f2⟩:=Ih.o _ (Below.refl _ _);change Calls _ _ #[.agg (BO a x),.agg (BO b y)] _ _;unfold BO;rw[Wi,QJ];clear J z U O Wi QJ j BA BB;go_enter Tryz.func21,Tryz.ntmps21;go_upto_region 2 with (fail);rw[<- hW];clear hW;go_cut [] from 6 to 13 (λ wd=>Hid (∃ X K g1 F1 L H g2 F2,Z2 w W wd a b x y m o X K g1 F1 L H g2 F2))
 case first =>
  go_region_with (go_at_call 53;(first | (with_reducible refine (KA.o _ _ G.o).mono ?_) | (with_reducible refine (KB.o _ _ G.o).mono ?_) | (with_reducible refine (KA.o _ _ (G.o.later dH.o.1.size (Below.refl _ _).drew)).mono ?_) | (with_reducible refine (KB.o _ _ (G.o.later dH.o.1.size (Below.refl _ _).drew)).mono ?_));rintro e9 w9 ⟨A9,c9,g9,rfl,h9⟩;clear G q1 q2 f1 f2;have G:=qh h9;obtain⟨-,q1,q2,f1,f2⟩:=Ih.o _ h9.bel;clear h9)
  all_goals
   (try go_wp2_with fail)
   go_meet
   exact qh (G.o.end_ dH.o.2 dH.o.1 (Ih.o _ G.o.bel).1.1 (Ih.o _ G.o.bel).1.2)
 case rest =>
  obtain⟨X,K,g1,F1,L,H,g2,F2,hz⟩:=hcut.o;have n:=qh hz;have r3:wc.cell? ⟨w.heap.size,3,none⟩=some (bo X m.length K):=hz.ba.cell 3;have Z:=qh (Js (c:=K) hz.r1 hz.bel.size N);clear hcut q1 q2 f1 f2 KA KB G Ih hz;go_upto_region 4 with (go_at_call 54;(with_reducible refine Z.o.mono ?_);rintro e3 w3 ⟨rfl,s,L1,F3,i,B,l⟩);have Y:=n.o.bel.size;have n1:m = []\/o = []\/g2≠g1:=n.o.ne.imp id (λ q=>q.imp id λ k e=>k e.symm);have C:=xm s (n.o.l1.imp id λ q=>by omega) n.o.ba;have t:=xm s (n.o.l1.imp id λ q=>by omega) n.o.bb;have I:=Po s Y (n.o.l1.imp id λ q=>by omega);have D:=n.o.r2.Pn (by
   rcases n1 with q | q | q
   .exact .inr λ T cs k=>xm s (.inl q) k
   .exact .inl q
   .exact .inr λ T cs k=>xm s (.inr q) k) I
  have M:=bt Y I.size;have ak:L1 = [] ↔ m = []:=⟨λ e=>by rw[e] at i;exact i.symm.eq_nil,λ e=>by rw[e] at i;exact i.eq_nil⟩;have aq:w3.cell? ⟨w.heap.size+1,3,none⟩=some (bo L o.length H):=t.cell 3;have ab:=qh (Js (c:=H) D M Q);have H3:=qh (bs (bs C t) (bs l (bs i B)));have al:=qh I;clear r3 Z s C t l D i B I;go_upto_region 5 with (go_at_call 54;(with_reducible refine ab.o.mono ?_);rintro e4 w4 ⟨rfl,p,L2,F4,S,ac,D⟩);obtain⟨⟨C,t⟩,l,i,B⟩:=H3.o;have ae:=xm p (n.o.l2.imp id λ q=>by omega) C;have aa:=xm p (n.o.l2.imp id λ q=>by omega) t;have P:=Po p M (n.o.l2.imp id λ q=>by omega);have l:=l.Pn (by
   rcases n1 with q | q | q
   .exact .inl (ak.2 q)
   .exact .inr λ T cs k=>xm p (.inl q) k
   .exact .inr λ T cs k=>xm p (.inr (λ e=>q e.symm)) k) P
  have ad:=bt M P.size;have ao:=i.length_eq;have ap:=S.length_eq;have f:=n.o.bel.trans (al.o.trans P);obtain⟨⟨J,Wi⟩,z,QJ⟩:=an.o;have fa:gQ w4 w4.heap.size {a with lists:=L1} {x with AS:=X,cs:=K}:=⟨J.nm,(J.la.keep f).up f.size,l.lies ad (by omega),by have:=n.o.k1;show L1.length<=K;omega,(J.it.keep (λ _ _ h=>h.keep f) f).Qe (λ _ _ h=>h.up f.size) f.size,J.ii⟩;have fb:gQ w4 w4.heap.size {b with lists:=L2} {y with AS:=L,cs:=H}:=⟨z.nm,(z.la.keep f).up f.size,D.lies ad (by omega),by have:=n.o.k2;show L2.length<=H;omega,(z.it.keep (λ _ _ h=>h.keep f) f).Qe (λ _ _ h=>h.up f.size) f.size,z.ii⟩;have KE:=qh (xk fa fb (bK _) (bK _));have l1:=nz (cs:=[bm a.nm,bk bl a.ig,bo x.AL a.aA.length x.cl,bo X m.length K,bo x.AI a.items.length x.ci]) rfl (gU ae);have l2:=nz (cs:=[bm b.nm,bk bl b.ig,bo y.AL b.aA.length y.cl,bo L o.length H,bo y.AI b.items.length y.ci]) rfl (gU aa);change Hid (Calls _ _ #[.agg #[bm a.nm,bk bl a.ig,bo x.AL a.aA.length x.cl,bo X L1.length K,bo x.AI a.items.length x.ci],.agg #[bm b.nm,bk bl b.ig,bo y.AL b.aA.length y.cl,bo L L2.length H,bo y.AI b.items.length y.ci]] w4 _) at KE;rw[ao,ap] at KE;have V:=qh (bs (bs i S) (bs (bs B ac) f));clear J z fa fb i S B ac f p C t ae aa l D H3 n ab;go_wp2_with (go_at_call 20;(with_reducible refine KE.o.mono ?_);rintro e5 w5 ⟨rfl,h5⟩);go_ret;exact⟨⟨L1,L2,V.o.1.1,V.o.1.2,V.o.2.1.1,V.o.2.1.2,rfl⟩,V.o.2.2.trans (h5.mono V.o.2.2.size)⟩
end Go.Proofs.YtcnagconagpkcaaGreatDoor
namespace Go.Proofs.YtcnagconagpkcaaGreatDoor
open Go.RowKit
attribute [local go_sem ↓] Go.wp_at_zero Go.wp_at_succ
set_option maxHeartbeats 4000000
set_option maxRecDepth 100000
theorem Jt:∀ (l:List jE) (x:jE),(jJ (l ++ [x])).length=(jJ l).length+(if l.getLast?=some x then 0 else 1)
 | [],x=>by simp[jJ]
 | [a],x=>by
  show (jJ [a,x]).length=_;rw[jJ];by_cases h:a=x
  .subst h;simp[jJ]
  .simp[jJ,h]
 | a :: b :: r,x=>by
  have d:=Jt (b :: r) x;have e:(a :: b :: r).getLast?=(b :: r).getLast?:=by simp[List.getLast?_cons_cons]
  rw[e];show (jJ (a :: b :: (r ++ [x]))).length=_;rw[jJ];have c:(jJ (b :: (r ++ [x]))).length=_:=d;by_cases h:a=b
  .rw[if_pos h,c,show jJ (a :: b :: r)=jJ (b :: r) by rw[jJ,if_pos h]]
  .rw[if_neg h,bX,c,show jJ (a :: b :: r)=a :: jJ (b :: r) by rw[jJ,if_neg h],bX];omega
theorem Pq (l:List jE):∀ m,m<=l.length->(Lib.compactUpTo l.toArray m).length=(jJ (l.take m)).length
 | 0,_=>by simp[Lib.compactUpTo,jJ]
 | m+1,h=>by
  have f:=Pq l m (by omega);have c:m<l.length:=h;rw[Lib.compactUpTo_succ,bw,f,bL c,Jt];congr 1;have d:l.toArray[m]! = l[m]:=by rw[getElem!_pos l.toArray m (by simpa using c)];simp
  cases m with
  | zero=>simp[Lib.keeps]
  | succ j =>
   have b:j<l.length:=by omega
   have e:l.toArray[j]! = l[j]:=by rw[getElem!_pos l.toArray j (by simpa using b)];simp
   have e3:(l.take (j+1)).getLast?=some l[j]:=by rw[bL b];exact List.getLast?_concat
   rw[e3];unfold Lib.keeps;rw[bR,d,e];by_cases hq:l[j]=l[j+1]
   .simp[hq]
   .have a:¬ l[j+1]=l[j]:=λ q=>hq q.symm;simp[hq,a]
theorem adv (a b:Int) (s t:ByteArray) (w:World):(Op.equalIn (9999+1) 131 (.agg #[bk bl a,bm s]) (.agg #[bk bl b,bm t])).run Tryz.prog w = .ok (bI (a,s) (b,t)) w:=by
 have u3:=Tryz.underlying3;have u9:=Tryz.underlying9;have f:=Tryz.isAgg3;have i:=Tryz.isAgg9;have g:=Tryz.sizeOf3;have h:=Tryz.sizeOf9;have e:Tryz.prog.underlying 131=some (.struct (Tryz.prog.fieldsOf 131)):=by kernel_rfl
 have c:Tryz.prog.stoodInHeld 131=false:=by kernel_rfl
 have d:bI (a,s) (b,t)=((a == b) && (s.toList == t.toList)):=by
  rw[lu];refine dE ?_;rw[Prod.mk.injEq,Bool.and_eq_true,dD,beq_iff_eq]
 rw[run_equalIn_agg w 9999 131 _ _ e c,d];simp only[Program.fieldsOf,Tryz.underlying131]
 go_simp
 by_cases h1:a=b <;> by_cases h2:s.toList=t.toList <;> simp[h1,h2]
theorem ami (p q:jE) (w:World):(binOp .eql 131 (.agg #[bk bl p.1,bm p.2]) (.agg #[bk bl q.1,bm q.2])).run Tryz.prog w = .ok (bq (bI p q)) w:=by
 rw[run_eql_struct,show (10000:Nat)=9999+1 from rfl,adv];rfl
theorem aiu (p q:jE) (w:World):(binOp .neq 131 (.agg #[bk bl p.1,bm p.2]) (.agg #[bk bl q.1,bm q.2])).run Tryz.prog w = .ok (bq (!bI p q)) w:=by
 rw[run_neq_struct,show (10000:Nat)=9999+1 from rfl,adv];rfl
theorem TW {l:List jE} {j:Nat} (h:j<l.length):l.toArray[j]! = l[j]:=by rw[getElem!_pos l.toArray j (by simpa using h)];simp
theorem zk.set {w:World} {g:Nat} {d:List jE} (h:zk w g d) {i:Nat} (k:i<d.length) (x:jE):zk ((w.setCell ⟨g,i*2,none⟩ (bk bl x.1)).setCell ⟨g,i*2+1,none⟩ (bm x.2)) g (d.set i x):=by
 obtain⟨a,l,b⟩:=h;have f:i*2+1<a.size:=(Array.getElem?_eq_some_iff.1 (b i k).2).1;refine⟨_,(l.dS _ _).dS _ _,λ j c=>?_⟩;rw[b0] at c;have:=b j c;by_cases e:i=j
 .subst e;simp[Array.getElem?_setIfInBounds,f,show i*2<a.size by omega,show ¬ i*2+1=i*2 by omega]
 .simp[Array.getElem?_setIfInBounds,show ¬ i*2=j*2 by omega,show ¬ i*2+1=j*2 by omega,show ¬ i*2=j*2+1 by omega,show ¬ i*2+1=j*2+1 by omega,List.getElem_set,e,this]
theorem aiv (w:World):(zeroValue 131).run Tryz.prog w = .ok (.agg #[bk bl 0,bm ⟨#[]⟩]) w:=by kernel_rfl
theorem afe {w:World} {g:Nat} {d:List jE} (h:zk w g d) {k:Nat} (r:k<d.length) (c:Nat):∃ o:List Value,∀ ty,(b4 #[71] ty #[bo (some ⟨g,k*2,none⟩) (d.length - k) c]).run Tryz.prog w = .ok (.tuple #[]) (w.setCells g (k*2) o):=by
 have a:(bA #[bk bl 0,bm ⟨#[]⟩] (d.length - k)).toList.length=(d.length - k)*2:=by simp[bA]
 have b:=run_storeCells_cells (P:=Tryz.prog) g (k*2) (bA #[bk bl 0,bm ⟨#[]⟩] (d.length - k)).toList 0 w (λ j e=>?_) (λ j e=>?_) (λ v n=>?_)
 .simp only[Nat.add_zero] at b;refine⟨(bA #[.int .i64 0,.string ⟨#[]⟩] (d.length - k)).toList,λ ty=>?_⟩;obtain⟨m,p⟩:∃ m,d.length - k=m+1:=⟨d.length - k - 1,by omega⟩;rw[p] at b ⊢;simp[b4,run_underlying Tryz.underlying71,aiv,Value.cells,b]
 .rw[a] at e;obtain⟨f,l,-,-⟩:=h.at_ (show k+j / 2<d.length by omega);rcases bS j with q | q
  .rw[show k*2+0+j=(k+j / 2)*2 by omega,f];rfl
  .rw[show k*2+0+j=(k+j / 2)*2+1 by omega,l];rfl
 .rw[a] at e;obtain⟨-,-,f,l⟩:=h.at_ (show k+j / 2<d.length by omega);rcases bS j with q | q
  .rw[show k*2+0+j=(k+j / 2)*2 by omega,f]
  .rw[show k*2+0+j=(k+j / 2)*2+1 by omega,l]
 .simp only[bA,Array.toList_map,List.mem_map] at n;obtain⟨i,-,rfl⟩:=n;rcases bS i with q | q
  .rw[show (#[b5 bl 0,b7 ⟨#[]⟩]:Array Value).size=2 from rfl,q];rfl
  .rw[show (#[b5 bl 0,b7 ⟨#[]⟩]:Array Value).size=2 from rfl,q];rfl
theorem zn {w w':World} {g o:Nat} (h:w.grownBy w' (some g)) (v:Value):w.grownBy (w'.setCell ⟨g,o,none⟩ v) (some g):=
 ⟨h.os,h.tape,h.output,by simpa [World.setCell] using h.size,λ j b a=>(Below.heap_setCell w' ⟨g,o,none⟩ v j (λ e=>a (by rw[e]))).trans (h.block j b a)⟩
theorem DJ {w:World} {g:Nat}:∀ (a:List Value) (o:Nat) {w':World},w.grownBy w' (some g)->w.grownBy (w'.setCells g o a) (some g)
 | [],_,_,h=>h
 | v :: r,o,_,h=>DJ r (o+1) (zn h v)
theorem zk.keep {w w':World} {g:Nat} {d:List jE} (h:zk w g d) (e:EG w w'):zk w' g d:=by
 obtain⟨a,b,c⟩:=h;exact⟨a,b.below e b.lt,c⟩
theorem Wj {w:World} {g c:Nat} {l:List jE} (h:zk w g l) (hc:l.length<=c) (hl:l.length<=100000) :
  Calls Tryz.prog 49 #[bo (some ⟨g,0,none⟩) l.length c] w λ e w'=>(∃ A c',e = br (bo A (jJ l).length c'))/\w.grownBy w' (some g):=by
 have V:=qh h;have T:=qh (show (Lib.compactUpTo l.toArray l.length).length=(jJ l).length by rw[Pq l _ (bK _),bN]);by_cases x:l.length<2
 .have e:(jJ l).length=l.length:=by
   match l,x with
   | [],_=>rfl
   | [a],_=>rfl
  rw[e];clear h V T e;go_enter Tryz.func49,Tryz.ntmps49;go_wp2;go_ret;exact⟨⟨_,_,rfl⟩,World.grownBy.refl _ _⟩
 have ac:Tryz.prog.eqGuardType Tryz.prog.depth 131=false:=by kernel_rfl
 clear h;go_enter Tryz.func49,Tryz.ntmps49;go_wp2;go_loopw [3] (λ i wr=>∃ m:Nat,i = bk bl ((m+1:Nat):Int)/\m+1<=l.length/\(∀ j,j<m+1->Lib.keeps l.toArray j=true)/\EG w wr) (λ i _=>l.length+1 - (intOf i).toNat)
 case atStart=>exact⟨0,rfl,by omega,Lib.keeps_lt_one _,Below.refl _ _⟩
 case round =>
  obtain⟨m,rfl,hm,C,D⟩:=hrel;have M:=qh C;clear C;by_cases I:m+1<l.length
  .have R:=V.o.keep D;obtain⟨u0,u1,-,-⟩:=R.at_ I;obtain⟨N,O,-,-⟩:=R.at_ (show m<l.length by omega);obtain⟨p,H⟩:=af (l[m+1]);obtain⟨q,F⟩:=af (l[m]'(by omega));rw[H] at u0 u1;rw[F] at N O;have Q:m<l.length:=by omega
   obtain⟨b,s⟩:=af (bI p q);have hE:∀ w,(binOp .eql 131 (.agg #[bk bl p.1,bm p.2]) (.agg #[bk bl q.1,bm q.2])).run Tryz.prog w = .ok (bq b) w:=λ w=>s▸ami p q w;have v:=qh (bs ((TW I).trans H) (bs ((TW Q).trans F) s));have hx:(0:Int)<=(m:Int)+1:=by omega
   have X:=qh I;clear H F s R;go_wp2_with fail;go_region;cases b
   .go_wp2;go_roundw
    case rel =>
     refine⟨m+1,by go_num,X.o,λ j L=>?_,D.trans (Below.refl _ _).drew⟩;by_cases e:j=m+1
     .subst e;obtain⟨y,x,B⟩:=v.o;refine Lib.keeps_pos ?_;rw[bR,y,x];intro h;rw[h,sZ] at B;cases B
     .exact M.o j (by omega)
    case measure =>
     have:=X.o;simp[intOf];omega
   .go_wp2;have r:=D.trans (Below.refl _ _).drew;obtain⟨y,x,B⟩:=v.o;have tq:=qh (show Lib.CompInv l.toArray (m+1+1) (m+1) l.toArray from Lib.CompInv.start M.o (Lib.keeps_neg (by omega) (by rw[bR,y,x];exact dD.1 B)));have U:=qh (V.o.keep r);have HG:=qh (show w.grownBy wr.drew (some g) from ⟨r.os,r.tape,r.output,r.size,λ j L _=>r.block j L⟩);clear y x B u0 u1 N O hE r v M;go_loopw [3,5] (λ i j Z=>∃ (d n:Nat) (dk:List jE),i = bk bl d/\j = bk bl ((n+1:Nat):Int)/\m+1+(n+1)<=l.length/\d<m+1+(n+1)/\dk.length=l.length/\Hid (zk Z g dk)/\Hid (Lib.CompInv l.toArray (m+1+(n+1)) d dk.toArray)/\Hid (w.grownBy Z (some g))) (λ _ j _=>l.length+1 - (intOf j).toNat)
    case atStart=>exact⟨m+1,0,l,rfl,rfl,by omega,by omega,rfl,U,tq,HG⟩
    case round =>
     obtain⟨d,n,dk,rfl,rfl,hn,ab,E,t,u,f⟩:=hrel;by_cases hl2:m+1+(n+1)<l.length
     .have hA:m+1+(n+1)<dk.length:=by omega
      have J:m+1+n<dk.length:=by omega
      have G:d<dk.length:=by omega
      obtain⟨u0,u1,-,-⟩:=t.o.at_ hA;obtain⟨N,O,-,-⟩:=t.o.at_ J;obtain⟨t0,t1,t2,t3⟩:=t.o.at_ G;obtain⟨p,H⟩:=af (dk[m+1+(n+1)]);obtain⟨q,F⟩:=af (dk[m+1+n]);obtain⟨o,Y⟩:=af (dk[d]);rw[H,show (m+1+(n+1))*2=(m+1)*2+(n+1)*2 by omega] at u0 u1;rw[F,show (m+1+n)*2=(m+1)*2+n*2 by omega] at N O;rw[Y] at t0 t1;obtain⟨b,s⟩:=af (bI p q);have hE:∀ w,(binOp .neq 131 (.agg #[bk bl p.1,bm p.2]) (.agg #[bk bl q.1,bm q.2])).run Tryz.prog w = .ok (bq (!b)) w:=λ w=>s▸aiu p q w;have y:l.toArray[m+1+(n+1)]! = p:=(u.o.high _ (by omega)).symm.trans ((TW hA).trans H);have x:l.toArray[m+1+n]! = q:=(u.o.high _ (by omega)).symm.trans ((TW J).trans F);have v:=qh (bs y (bs x s));have hx:(0:Int)<=(n:Int)+1:=by omega
      have z:=qh hl2;have Dy:=qh (show w.grownBy wr.drew (some g)->True from λ _=>trivial);clear H F Y s y x;go_wp2_with fail;go_region;cases b
      .go_wp2;go_roundw
       case rel =>
        obtain⟨y,x,B⟩:=v.o;have K:=u.o.keep (by simpa using z.o) (Lib.keeps_pos (by rw[show m+1+(n+1) - 1=m+1+n by omega,y,x];intro h;rw[h,sZ] at B;cases B));rw[y,List.setIfInBounds_toArray] at K;exact⟨d+1,n+1,dk.set d p,by go_num,by go_num,z.o,by omega,by rw[b0];exact E,qh ((t.o.set G p).keep (Below.refl _ _).drew),qh K,qh (show w.grownBy _ (some g) from by
         have q:=zn (o:=d*2+1) (zn (o:=d*2) f.o (bk bl p.1)) (bm p.2);exact⟨q.os,q.tape,q.output,q.size,q.block⟩)⟩
       case measure =>
        have:=z.o;simp[intOf];omega
      .go_wp2;go_roundw
       case rel =>
        obtain⟨y,x,B⟩:=v.o;exact⟨d,n+1,dk,rfl,by go_num,z.o,by omega,E,qh (t.o.keep (Below.refl _ _).drew),qh (u.o.skip (Lib.keeps_neg (by omega) (by rw[show m+1+(n+1) - 1=m+1+n by omega,y,x];exact dD.1 B))),qh (show w.grownBy _ (some g) from ⟨f.o.os,f.o.tape,f.o.output,f.o.size,f.o.block⟩)⟩
       case measure =>
        have:=z.o;simp[intOf];omega
     .have e:m+1+(n+1)=l.length:=by omega
      have W:=qh (show (jJ l).length=d by rw[<- T.o,<- u.o.len,e]);have G:d<l.length:=by omega
      obtain⟨vs,P⟩:=afe t.o (k:=d) (by omega) (c - d);rw[E] at P;have aa:d<=c:=by omega
      have S:=qh (DJ vs (d*2) f.o);clear f u t;go_wp2;go_ret;exact⟨⟨_,_,by rw[W.o];rfl⟩,S.o⟩
  .have e:m+1=l.length:=by omega
   have W:=qh (show (jJ l).length=l.length by
    rw[<- T.o,Lib.compactUpTo_all _ _ (by rw[<- e];exact M.o)];simp)
   go_wp2;go_ret;exact⟨⟨_,_,by rw[W.o];rfl⟩,D.os,D.tape,D.output,D.size,λ j L _=>D.block j L⟩
end Go.Proofs.YtcnagconagpkcaaGreatDoor
namespace Go.Proofs.YtcnagconagpkcaaGreatDoor
open Go.RowKit
attribute [local go_sem ↓] Go.wp_at_zero Go.wp_at_succ
attribute [local go_sem ↓] ld_item st_item ld_node st_node ld_ans st_ans ld_part st_part ld_rule st_rule ld_form st_form
set_option maxHeartbeats 4000000
set_option maxRecDepth 100000
open Classical in
noncomputable def Pv (N M:List ah) (nm:ByteArray) (L:List ah):List ByteArray:=(L.filter (λ d=>decide (GL N M nm d))).map (·.it.nm)
open Classical in
theorem Wl {N M:List ah} {nm:ByteArray} {k:Nat} (a:k<N.length):Pv N M nm (N.take (k+1))=Pv N M nm (N.take k) ++ (if GL N M nm N[k] then [N[k].it.nm] else []):=by
 unfold Pv;rw[bL a,List.filter_append,List.map_append,List.filter_cons,List.filter_nil];by_cases h:GL N M nm N[k]
 .rw[if_pos h,if_pos (by simpa using h)];rfl
 .rw[if_neg h,if_neg (by simpa using h)];rfl
theorem aax {N M:List ah} {nm:ByteArray} (k:Nat):(Pv N M nm (N.take k)).length<=k:=by
 unfold Pv;rw[b9];exact bt (cb _ _) (by rw[List.length_take];omega)
theorem GZ {w:World} {B0 gb m1 m2 m3:Nat} {x:ku} {f:aG} {N:List ah} {K:aV} (h:aJ w B0 gb m1 m2 m3 x f N K) {C0 gc n1 n2 n3:Nat} {y:ku} {f':aG} {M:List ah} {K':aV} (h':aJ w C0 gc n1 n2 n3 y f' M K') (hN:eH N) (hM:eH M) (nm:ByteArray) :
  Calls Tryz.prog 136 #[bp (some ⟨gb,0,none⟩),bp (some ⟨gc,0,none⟩),bm nm] w λ e w'=>(∃ v,e = br v/\w'.ownsRow w.heap.size 9 1 v (rH N M nm).length (iZ (rH N M nm)))/\EG w w':=by
 obtain⟨i0,al,ae,am,ak⟩:=info_parts zA;have an:=h.cap;have su:=h.nodes.1;have c5:w.cell? ⟨gb,5,none⟩=some (bo x.AN N.length x.cn):=h.blk.cell 5;have lg:=qh h;have G:=qh h';obtain⟨AN,Y⟩:=af (x.AN);have SH:=qh Y;rw[Y] at c5;clear h h' Y;go_enter Tryz.func136,Tryz.ntmps136;go_wp2;clear c5;go_loopw [16,7] (λ i v wr=>∃ k:Nat,i = bk bl k/\k<=N.length/\wr.ownsRow w.heap.size 9 1 v (Pv N M nm (N.take k)).length (iZ (Pv N M nm (N.take k)))/\EG w wr) (λ i _ _=>302 - (intOf i).toNat)
 case atStart=>exact⟨0,rfl,bT _,by rw[bB];exact World.ownsRow_nil _ _ _ _,Below.refl _ _⟩
 case round =>
  obtain⟨k,rfl,hk,p,V⟩:=hrel;obtain⟨L,hL⟩:=af (Pv N M nm (N.take k));rw[hL] at p;obtain⟨Ao,co,rfl⟩:=jT p;have HL:=qh hL;clear hL;have p:=qh p;have hs:=V.size;by_cases hlt:k<N.length
  .have G9:=qh (lg.o.keep V);obtain⟨ad,A1,c1,A2,c2,A3,c3,A4,c4,A5,c5,B1,b1,B2,b2,B3,b3,A,c,hA,LM,hit,O,hc⟩:=G9.o.oW hlt;obtain rfl:AN=some ad:=SH.o.symm.trans hA;have X:=qh (λ (w':World) (T:EG w w')=>uT (lg.o.keep T) hN k hlt);obtain⟨d,hd⟩:=af (N[k]);have b:=qh (Wl (M:=M) (nm:=nm) hlt);rw[hd] at hc b O hit X;have D:d.it.nm.size<=maxLen:=by cases hit;assumption
   obtain⟨cs,n⟩:∃ cs:List Value,[bk bl d.it.k,bm d.it.nm,bo A1 d.it.iff.length c1,bo A2 d.it.ph.length c2,bo A3 d.it.items.length c3,bq d.it.sh,bo A4 d.it.cnt.length c4,bm d.it.over,bk bl d.it.ans.k,bk bl d.it.ans.lo,bk bl d.it.ans.hi,bk bl d.it.ans.pl,bm d.it.ans.ls,bo B1 d.it.ans.only.length b1,bq d.it.ans.sh,bo B2 d.it.ans.rs.length b2,bq d.it.ans.need,bo B3 d.it.ans.ch.length b3,bo A5 d.it.cmp.length c5,bk bl d.par,bk bl d.kV,bk bl d.dJ,bo A d.lo.length c]=cs:=⟨_,rfl⟩;have Z:cs.length=23:=by subst n;rfl
   have yK:=yl (w:=wr) Z (ad:=ad.add (k*23)) (λ j u S=>hc j u (by subst n;exact S));have Cc:=Dp (w:=wr) Z (by subst n;simp[Value.oneCell']);obtain⟨W,R⟩:=aH (wr.alloc (.cells cs.toArray 110 (0,0)));have lJ:EG wr W:=R▸aB wr _;have l:=V.trans (lJ.mono hs);have BW:ag W wr.heap.size 110 cs.toArray:=R▸ag.new wr _ _;have q1:W.cell? ⟨wr.heap.size,1,none⟩=some (bm d.it.nm):=by rw[BW.cell 1];subst n;rfl
   have P:=qh (oD (G.o.keep l) d.it.nm D);have E:=qh (X.o W l);have B:=qh hlt;clear n Z hit O hc LM G9 hA D BW X;go_upto_region 5 with (fail);rw[<- R];clear yK Cc R;have a:=qh (show GL N M nm d ↔ 0<=bG M d.it.nm/\jC N d=nm/\jC M (je M (bG M d.it.nm))=nm from Iff.rfl);have U:=qh (dm p.o lJ);have ab:=aax (N:=N) (M:=M) (nm:=nm) k;rw[HL.o] at b ab;obtain⟨s,r⟩:=af (d.it.nm);rw[r] at b a P q1;by_cases h0:bG M s<0
   .have z:=qh (b.o.trans (by rw[if_neg (λ q=>by have:=(a.o.1 q).1;omega),bv]));obtain⟨q,T⟩:=af (bG M s);rw[T] at h0 P;have ap:decide (q >= 0)=false:=decide_eq_false (by omega);clear T a b hd r p;go_wp2_with (go_at_call 36;(with_reducible refine P.o.mono ?_);rintro e1 w1 ⟨rfl,rfl⟩);go_roundw
    case rel=>exact⟨k+1,by go_num,B.o,by rw[z.o];exact U.o,l⟩
    case measure =>
     have:=B.o;simp[intOf];omega
   .obtain⟨i,hi,t⟩:=um h0;rw[hi] at P a;rw[iY t] at a;have F:=qh (uT (G.o.keep l) hM i t);obtain⟨p1,I⟩:=af (jC N d);obtain⟨p2,J⟩:=af (jC M M[i]);rw[I] at E a;rw[J] at F a;obtain⟨g1,ac⟩:=af ((p1.toList == nm.toList));obtain⟨g2,o⟩:=af ((p2.toList == nm.toList));have H:=qh (bs (ac.symm.trans (lu p1 nm)) (o.symm.trans (lu p2 nm)));have ao:decide ((i:Int) >= 0)=true:=decide_eq_true (by omega);clear h0 hi I J hd r p t;cases g1;rotate_left;cases g2;rotate_left
    case' false =>
     have z:=qh (b.o.trans (by rw[if_neg (λ q=>by have h1:=(a.o.1 q).2;have Q:=H.o.1;rw[h1.1,sZ] at Q;cases Q)]))
    case' true.false =>
     have z:=qh (b.o.trans (by rw[if_neg (λ q=>by have h1:=(a.o.1 q).2;have Q:=H.o.2;rw[h1.2,sZ] at Q;cases Q)]))
    case' true.true =>
     have z:=qh (b.o.trans (by rw[if_pos (a.o.2 ⟨by omega,dD.1 H.o.1.symm,dD.1 H.o.2.symm⟩)]))
    all_goals
     clear b a H;go_wp2_with (first
      | (go_at_call 36;(with_reducible refine P.o.mono ?_);rintro e1 w1 ⟨rfl,rfl⟩)
      | (go_at_call 93;(first | (with_reducible refine E.o.mono ?_) | (with_reducible refine F.o.mono ?_));rintro e1 w1 ⟨rfl,rfl⟩)
      | (at_builtin;refine wpList_append_own _ rfl _ _ 22 rfl w.heap.size 9 i0 (.string ByteArray.empty) 1 16 Tryz.underlying22 al ae am ak rfl (by decide) _ _ _ rfl (U.o.alloc _) ⟨W.heap.size,0,none⟩ 1 1 [.string s] rfl rfl ?c1 ?c2 ?c3 ?c4 ?c5 ?_))
    case c1=>exact World.news_of_block (ag.new W 9 _)
    case c2=>intro u S;simp only[List.mem_singleton] at S;subst S;rfl
    case c3=>unfold maxLen;omega
    case c4=>omega
    case c5=>have:=l.size;simp;omega
    .intro v2 w2 m o aq;have OV:=U.o.alloc (.cells #[bm s] 9 (0,0));have aa:EG w w2:=(l.alloc (by have:=l.size;omega) _).grown o (by have:=l.size;simp;omega) (λ g hg=>(OV.lt g hg).1);have C:iZ L ++ [bm s]=iZ (L ++ [s]):=by simp[iZ]
     have HN:=qh (show w2.ownsRow w.heap.size 9 1 v2 (L ++ [s]).length (iZ (L ++ [s])) by rw[bw,<- C];exact m);clear m o OV C;go_wp2;go_roundw
     case rel=>exact⟨k+1,by go_num,B.o,by rw[z.o];exact HN.o,aa⟩
     case measure =>
      have:=B.o;simp[intOf];omega
    all_goals
     go_roundw
     case rel=>exact⟨k+1,by go_num,B.o,by rw[z.o,bv];exact U.o,l⟩
     case measure =>
      have:=B.o;simp[intOf];omega
  .have e:k=N.length:=by omega
   subst e;have HE:=qh (show rH N M nm=L by rw[<- HL.o,bN];rfl);go_wp2;go_ret;exact⟨⟨_,rfl,by rw[HE.o];exact p.o⟩,V⟩
end Go.Proofs.YtcnagconagpkcaaGreatDoor
namespace Go.Proofs.YtcnagconagpkcaaGreatDoor
open Go.RowKit
attribute [local go_sem ↓] Go.wp_at_zero Go.wp_at_succ
set_option maxHeartbeats 4000000
set_option maxRecDepth 100000
structure O2 (w cur:World) (L L':List ByteArray) (o1 o2:Option Value):Prop where
 bel:EG w cur
 r1:∀ v,o1=some v->∃ A c,v = bo A L.length c/\dB cur cur.heap.size A L
 r2:∀ v,o2=some v->∃ A c,v = bo A L'.length c/\dB cur cur.heap.size A L'
theorem O2.later {w a w':World} {L i:List ByteArray} {g o2:Option Value} (h:O2 w a L i g o2) (b:EG a w'):O2 w w' L i g o2:=
 ⟨h.bel.trans (b.mono h.bel.size),λ v e=>by obtain⟨A,c,d,f⟩:=h.r1 v e;exact⟨A,c,d,(f.below b).more b.size⟩,λ v e=>by obtain⟨A,c,d,f⟩:=h.r2 v e;exact⟨A,c,d,(f.below b).more b.size⟩⟩
theorem O2.drew {w a:World} {L c:List ByteArray} {b o2:Option Value} (h:O2 w a L c b o2):O2 w a.drew L c b o2:=h.later (Below.refl _ _).drew
theorem oM.q01 {w0 w:World} {g a b:Nat} {l:List jE} (h:oM w0 w g a b l):w.cell? ⟨g,0,none⟩=some (bp (some ⟨a,0,none⟩))/\w.cell? ⟨g,1,none⟩=some (bp (some ⟨b,0,none⟩)):=by
 obtain⟨A,c,B,-⟩:=h.row;exact⟨B.cell 0,B.cell 1⟩
theorem Px (N M:List ah) (nm:ByteArray):(rH N M nm).length<=N.length:=by
 unfold rH;rw[b9];exact cb _ _
theorem Lp (N M:List ah) (nm:ByteArray):xZ N M nm=x8 (!decide (rH N M nm=rH M N nm)) 4 nm:=rP _ _ (by simp) _ _
theorem G5 {w0:World} {B0 r m1 m2 m3:Nat} {x:ku} {f:aG} {N:List ah} {K:aV} (D:aJ w0 B0 r m1 m2 m3 x f N K) {C0 o n1 n2 n3:Nat} {y:ku} {f':aG} {M:List ah} {K':aV} (E:aJ w0 C0 o n1 n2 n3 y f' M K') (U:eH N) (T:eH M) {w:World} {g:Nat} {l:List jE} (h:oM w0 w g r o l) (hl:l.length<=100000) (nm:ByteArray) :
  Calls Tryz.prog 92 #[bp (some ⟨g,0,none⟩),bm nm] w λ e w'=>e = br (.tuple #[])/\oM w0 w' g r o (l ++ xZ N M nm)/\rO w0 w w':=by
 have Z:=D.nodes.1;have aa:=E.nodes.1;have G:=Px N M nm;have H:=Px M N nm;rw[Lp];obtain⟨L,F⟩:=af (rH N M nm);obtain⟨k,n⟩:∃ L,rH M N nm=L:=⟨_,rfl⟩;obtain⟨A,c,B,m⟩:=h.row;have R:=qh (show ∀ a,EG w a->a.cell? ⟨g,0,none⟩=some (bp (some ⟨r,0,none⟩))/\a.cell? ⟨g,1,none⟩=some (bp (some ⟨o,0,none⟩)) from λ a i=>⟨(B.below i B.lt).cell 0,(B.below i B.lt).cell 1⟩);have S:=qh (show ∀ a P,O2 w a L k none P->Calls Tryz.prog 136 #[bp (some ⟨r,0,none⟩),bp (some ⟨o,0,none⟩),bm nm] a λ e w'=>∃ v,e = br v/\O2 w w' L k (some v) P from λ a P q=>by
  have j:=h.bel.trans (q.bel.mono h.bel.size);refine (GZ (D.keep j) (E.keep j) U T nm).mono λ e w' ⟨⟨v,t,m⟩,i⟩=>⟨v,t,(q.later i).bel,λ u e=>?_,(q.later i).r2⟩;injection e with e;subst e;rw[F] at m;obtain⟨A,c,rfl⟩:=jT m;exact⟨A,c,rfl,Reads.fM m⟩)
 have V:=qh (show ∀ a J,O2 w a L k J none->Calls Tryz.prog 136 #[bp (some ⟨o,0,none⟩),bp (some ⟨r,0,none⟩),bm nm] a λ e w'=>∃ v,e = br v/\O2 w w' L k J (some v) from λ a J q=>by
  have j:=h.bel.trans (q.bel.mono h.bel.size);refine (GZ (E.keep j) (D.keep j) T U nm).mono λ e w' ⟨⟨v,t,m⟩,i⟩=>⟨v,t,(q.later i).bel,(q.later i).r1,λ u e=>?_⟩;injection e with e;subst e;rw[n] at m;obtain⟨A,c,rfl⟩:=jT m;exact⟨A,c,rfl,Reads.fM m⟩)
 rw[F,n];rw[F] at G;rw[n] at H;obtain⟨b,i⟩:=af (decide (L=k));rw[i];have KE:=qh (show ∀ a z s,O2 w a L k (some z) (some s)->Calls Tryz.prog 16 #[z,s] a λ e w'=>e = br (bq b)/\O2 w w' L k (some z) (some s) from λ a z s q=>by
  obtain⟨A,c,rfl,I⟩:=q.r1 _ rfl;obtain⟨A',c',rfl,Q⟩:=q.r2 _ rfl;refine (kQ A A' c c' _ _ L k a (by unfold maxLen;omega) (by unfold maxLen;omega) I Q).mono λ e w' ⟨t,O⟩=>⟨by rw[t,i],q.later O⟩)
 have KT:=qh (show ∀ C a z s,O2 w a L k (some z) (some s)->Calls Tryz.prog 46 #[bp (some ⟨g,0,none⟩),bq C,bk bl 4,bm nm] a λ e w'=>e = br (.tuple #[])/\oM w0 w' g r o (l ++ x8 C 4 nm)/\rO w0 w w' from λ C a z s q =>
  (Au (h.keep q.bel) (by omega) C 4 nm).mono λ e w' ⟨t,I,Q⟩=>⟨t,I,(rO.of q.bel h.bel.size).trans Q⟩)
 have d:=qh (show O2 w w L k none none from ⟨Below.refl _ _,λ _ e=>(by cases e),λ _ e=>(by cases e)⟩);clear D E h B m F n i;cases b
 all_goals
  go_enter Tryz.func92,Tryz.ntmps92;go_region_held3 (λ w'=>w'.cell? ⟨g,0,none⟩=some (bp (some ⟨r,0,none⟩))/\w'.cell? ⟨g,1,none⟩=some (bp (some ⟨o,0,none⟩)))
   (first | exact HQ | exact R.o _ d.o.bel | exact R.o _ d.o.drew.bel)
   (first
   | (go_at_call 136;(first | (with_reducible refine (S.o _ _ d.o.drew).mono ?_) | (with_reducible refine (V.o _ _ d.o.drew).mono ?_) | (with_reducible refine (S.o _ _ d.o).mono ?_) | (with_reducible refine (V.o _ _ d.o).mono ?_));rintro X W ⟨v9,rfl,p⟩;clear d;have d:=qh p;clear p)
   | (go_at_call 16;(with_reducible refine (KE.o _ _ _ d.o).mono ?_);rintro X W ⟨rfl,p⟩;clear d;have d:=qh p;clear p)
   | (go_at_call 46;(with_reducible refine (KT.o _ _ _ _ d.o).mono ?_);rintro X W ⟨rfl,p⟩;have Y:=qh p;clear p d;have HQ:=Y.o.1.q01))
  all_goals
   (try go_wp2)
   go_end0;exact⟨rfl,Y.o⟩
end Go.Proofs.YtcnagconagpkcaaGreatDoor
namespace Go.Proofs.YtcnagconagpkcaaGreatDoor
open Go.RowKit
attribute [local go_sem ↓] Go.wp_at_zero Go.wp_at_succ
attribute [local go_sem ↓] ld_item st_item ld_node st_node ld_ans st_ans ld_part st_part ld_rule st_rule ld_form st_form
set_option maxHeartbeats 4000000
set_option maxRecDepth 100000
theorem afg {x y:ItemD} {cs ds:List Value} {c d:Nat} {w:World} (h:bW w c x cs) (e:bW w d y ds) (b:c<=w.heap.size) (a:d<=w.heap.size) :
  CS 94 #[.agg cs.toArray,.agg ds.toArray] w (bq (PL x y)):=by
 cases h with
 | mk h1 h2 h4 h5 ha l1 l3 l4 l5 l6 l7 l8 hr hi =>
  cases e with
  | mk k1 k2 k4 k5 ka m1 m3 m4 m5 m6 m7 m8 kr ki =>
   exact Rz ⟨h1,h4,h5⟩ ⟨k1,k4,k5⟩ b a
theorem afh {x y:ItemD} {cs ds:List Value} {c d:Nat} {w:World} (h:bW w c x cs) (e:bW w d y ds) (b:c<=w.heap.size) (a:d<=w.heap.size) :
  CS 96 #[.agg cs.toArray,.agg ds.toArray] w (bq (phB x y)):=by
 cases h with
 | mk h1 h2 h4 h5 ha l1 l3 l4 l5 l6 l7 l8 hr hi =>
  cases e with
  | mk k1 k2 k4 k5 ka m1 m3 m4 m5 m6 m7 m8 kr ki =>
   exact RD h2 k2 ha.h3 ka.h3 b a
theorem afi {x y:jS} {cs ds:List Value} {d c:Nat} {w:World} (h:Ll w d x cs) (e:Ll w c y ds) (b:d<=w.heap.size) (a:c<=w.heap.size) :
  CS 95 #[.agg cs.toArray,.agg ds.toArray] w (bq (bI x.bare y.bare)):=by
 obtain⟨s,n,m,t,k,r,rfl,g⟩:=h;obtain⟨u,o,l,q,j,p,rfl,f⟩:=e;exact Ph g f b a
structure I3 (w0 cur:World) (g gb gc b3 b6:Nat) (cs:Array Value) (ds:Option (Array Value)) (n:Nat) (l:List jE):Prop where
 df:oM w0 cur g gb gc l
 bx:ag cur b3 110 cs
 Qh:∀ e,ds=some e->ag cur b6 59 e
 len:l.length<=n
theorem I3.later {w0 a w':World} {g d f b3 c:Nat} {cs:Array Value} {ds:Option (Array Value)} {n:Nat} {l:List jE} (h:I3 w0 a g d f b3 c cs ds n l) (b:EG a w'):I3 w0 w' g d f b3 c cs ds n l:=
 ⟨h.df.keep b,h.bx.below b h.bx.lt,λ e q=>(h.Qh e q).below b (h.Qh e q).lt,h.len⟩
theorem I3.drew {w0 a:World} {g c d b3 b:Nat} {cs:Array Value} {ds:Option (Array Value)} {n:Nat} {l:List jE} (h:I3 w0 a g c d b3 b cs ds n l):I3 w0 a.drew g c d b3 b cs ds n l:=h.later (Below.refl _ _).drew
theorem I3.step {w0 a w':World} {g b c b3 d:Nat} {cs:Array Value} {ds:Option (Array Value)} {n i:Nat} {l l':List jE} (h:I3 w0 a g b c b3 d cs ds n l) (k:oM w0 w' g b c l') (f:rO w0 a w') (j:l'.length<=i):I3 w0 w' g b c b3 d cs ds i l':=
 ⟨k,f.blk _ _ _ h.bx (by decide) (by decide),λ e q=>f.blk _ _ _ (h.Qh e q) (by decide) (by decide),j⟩
theorem I3.nil {w0 a:World} {g c d b3 b:Nat} {cs:Array Value} {ds:Option (Array Value)} {n:Nat} {l:List jE} {k:Int} {s:ByteArray} (h:I3 w0 a g c d b3 b cs ds n (l ++ x8 false k s)):I3 w0 a g c d b3 b cs ds n l:=by
 have e:l ++ x8 false k s=l:=by simp[x8]
 rw[e] at h;exact h
theorem Ej (b:Bool) (k:Int) (s:ByteArray):(x8 b k s).length<=1:=by cases b <;> simp[x8]
theorem I3.tell {w0 a:World} {g d f b3 c:Nat} {cs:Array Value} {ds:Option (Array Value)} {n:Nat} {l:List jE} (h:I3 w0 a g d f b3 c cs ds n l) (o:n<=90000) (b:Bool) (k:Int) (s:ByteArray) :
  Calls Tryz.prog 46 #[bp (some ⟨g,0,none⟩),bq b,bk bl k,bm s] a λ e w'=>e = br (.tuple #[])/\I3 w0 w' g d f b3 c cs ds (n+1) (l ++ x8 b k s)/\rO w0 a w':=
 (Au h.df (by have:=h.len;omega) b k s).mono λ e w' ⟨j,m,i⟩=>⟨j,h.step m i (by have:=h.len;have:=Ej b k s;simp only[bw];omega),i⟩
theorem I3.order {w0:World} {B0 b v j m:Nat} {x:ku} {f:aG} {N:List ah} {K:aV} (r:aJ w0 B0 b v j m x f N K) {q c k B A:Nat} {y:ku} {C:aG} {M:List ah} {w:aV} (u:aJ w0 q c k B A y C M w) (t:eH N) (o:eH M) {a:World} {g b3 d:Nat} {cs:Array Value} {ds:Option (Array Value)} {n:Nat} {l:List jE} (h:I3 w0 a g b c b3 d cs ds n l) (D:n<=90000) (s:ByteArray) :
  Calls Tryz.prog 92 #[bp (some ⟨g,0,none⟩),bm s] a λ e w'=>e = br (.tuple #[])/\I3 w0 w' g b c b3 d cs ds (n+1) (l ++ xZ N M s)/\rO w0 a w':=
 (G5 r u t o h.df (by have:=h.len;omega) s).mono λ e w' ⟨p,z,i⟩=>⟨p,h.step z i (by have:=h.len;rw[Lp];have:=Ej (!decide (rH N M s=rH M N s)) 4 s;simp only[bw];omega),i⟩
theorem xN {α β:Type} {F:α->List β} {l:List α} {k:Nat} (h:k<l.length):(l.take (k+1)).flatMap F=(l.take k).flatMap F ++ F l[k]:=by
 rw[bL h,List.flatMap_append];simp
theorem aaz {N M:List ah} {d:ah} (h:bG M d.it.nm<0):rJ N M d=x8 true 1 d.it.nm:=by unfold rJ;rw[if_pos h];rfl
theorem aaA {N M:List ah} {d e:ah} {i:Nat} (h:bG M d.it.nm=i) (a:je M i=e):rJ N M d =
  x8 (!((jC N d).toList == (jC M e).toList)) 3 d.it.nm ++ x8 (!PL d.it e.it) 5 d.it.nm ++ x8 ((d.it.k == 4) && (e.it.k == 4) && !bI d.it.ans.bare e.it.ans.bare) 6 d.it.nm ++ x8 (!phB d.it e.it) 7 d.it.nm ++ xZ N M d.it.nm:=by
 unfold rJ;rw[if_neg (by omega),h,a];congr 1;congr 1
 .congr 1
  .congr 1
   .exact rP _ _ (by rw[lu];have:=@dD _ (jC N d) (jC M e);cases h9:bI (jC N d) (jC M e) <;> simp_all) _ _
   .exact rP _ _ (by rw[<- acK];simp) _ _
  .exact rP _ _ (by have:=@dD _ d.it.ans.bare e.it.ans.bare;cases h9:bI d.it.ans.bare e.it.ans.bare <;> simp_all) _ _
 .exact rP _ _ (by rw[<- acM];simp) _ _
theorem RG {w:World} {B:Nat} {x:ItemD} {cs:List Value} (h:bW w B x cs):cs[0]?=some (bk bl x.k)/\x.nm.size<=maxLen:=by
 cases h with
 | mk h1 h2 h4 h5 ha l1 l3 l4 l5 l6 l7 l8 hr hi=>exact⟨rfl,l6⟩
theorem RH {w:World} {B0 n p g l:Nat} {x:ku} {f:aG} {N:List ah} {K:aV} (h:aJ w B0 n p g l x f N K) {i:Nat} (m:i<N.length):∃ ad a b,x.AN=some ad/\bW w B0 N[i].it a/\(a ++ b).length=23/\(∀ v∈a ++ b,v.oneCell'=true)/\∀ j u,(a ++ b)[j]?=some u->w.cell? ((ad.add (i*23)).add j)=some u:=by
 obtain⟨ad,cs,o,-,⟨a,A,c,rfl,hit,-⟩,k⟩:=h.nodes.at_ m;obtain⟨d,r⟩:=xh hit;refine⟨ad,a,_,o,hit,by simp[d],λ v e=>?_,k⟩;rcases List.mem_append.1 e with q | q
 .exact r v q
 .simp only[List.mem_cons,List.not_mem_nil,or_false] at q;rcases q with rfl | rfl | rfl | rfl <;> rfl
structure NdX (cs lW an:List Value) (k:Int) (s:ByteArray):Prop where
 c0:cs[0]?=some (bk bl k)
 c1:cs[1]?=some (bm s)
 n19:lW.length=19
 n10:an.length=10
 ci:∀ (j:Nat) (u:Value),lW[j]?=some u->cs[j]?=some u
 ca:∀ (j:Nat) (u:Value),an[j]?=some u->cs[8+j]?=some u
theorem NdX.at_ {cur:World} {g:Nat} {T:TypeId} {cs d c:List Value} {k:Int} {s:ByteArray} (h:NdX cs d c k s) (b:ag cur g T cs.toArray):cur.cell? ⟨g,0,none⟩=some (bk bl k)/\cur.cell? ⟨g,1,none⟩=some (bm s)/\(qG 59 (bp (some ⟨g,0,none⟩))).run Tryz.prog cur = .ok (.agg d.toArray) cur/\(qG 57 (bp (some ⟨g,8,none⟩))).run Tryz.prog cur = .ok (.agg c.toArray) cur:=
 ⟨by rw[b.cell 0];simpa using h.c0,by rw[b.cell 1];simpa using h.c1,vC h.n19 λ j u a=>gU b j u (h.ci j u a),uo h.n10 λ j u a=>by
  have:=gU b (8+j) u (h.ca j u a)
  rwa [<- kC] at this⟩
theorem RI {w:World} {B:Nat} {x:ItemD} {a:List Value} (h:bW w B x a) (e:List Value):∃ an,NdX (a ++ e) a an x.k x.nm/\Ll w B x.ans an:=by
 obtain⟨-,-,-,-,an,k,-,-,-,-,d,i,f⟩:=zl h;obtain⟨g,-⟩:=RG h;have b:∀ j u,a[j]?=some u->(a ++ e)[j]?=some u:=λ j u c=>by
  rw[cc (ce.1 c).1];exact c
 exact⟨an,⟨b _ _ g,b _ _ k,(xh h).1,d,b,λ j u c=>b _ _ (i j u c)⟩,f⟩
theorem acQ (N:List ah) (d:ah):GM N d=x8 (decide (bG N d.it.nm<0)) 2 d.it.nm:=rP _ _ (by simp) _ _
theorem Wn {w0:World} {B0 H m1 m2 m3:Nat} {x:ku} {f:aG} {N:List ah} {K:aV} (hA:aJ w0 B0 H m1 m2 m3 x f N K) {C0 I n1 n2 n3:Nat} {y:ku} {f':aG} {M:List ah} {K':aV} (hB:aJ w0 C0 I n1 n2 n3 y f' M K') (hN:eH N) (hM:eH M) {w:World} {g:Nat} {l:List jE} (h:oM w0 w g H I l) (hl:l.length<=1000) :
  Calls Tryz.prog 44 #[bp (some ⟨g,0,none⟩)] w λ e w'=>e = br (.tuple #[])/\oM w0 w' g H I (l ++ nG N M)/\rO w0 w w':=by
 have su:=hA.nodes.1;have bh:=hB.nodes.1;have bg:=hA.cap;have a8:=hB.cap;have K0:=qh (G5 hA hB hN hM h (by omega) ⟨#[]⟩);have bj:(xZ N M ⟨#[]⟩).length<=1:=by rw[Lp];exact Ej _ _ _
 have a9:=qh (show nG N M=xZ N M ⟨#[]⟩ ++ N.flatMap (rJ N M) ++ M.flatMap (GM N) from rfl);obtain⟨AN,G8⟩:=af (x.AN);obtain⟨AM,av⟩:=af (y.AN);have SH:=qh (bs G8 av);have HC:=qh (show ∀ cur,EG w0 cur->cur.cell? ⟨H,5,none⟩=some (bo AN N.length x.cn)/\cur.cell? ⟨I,5,none⟩=some (bo AM M.length y.cn) from λ cur o=>⟨by rw[<- G8];exact (hA.keep o).blk.cell 5,by rw[<- av];exact (hB.keep o).blk.cell 5⟩);have bd:=h.q01;obtain⟨q0,q1⟩:=bd;have HA:=qh hA;have HB:=qh hB;clear hA hB h G8 av;go_enter Tryz.func44,Tryz.ntmps44;go_upto_region 1 with (go_at_call 92;(with_reducible refine K0.o.mono ?_);rintro e1 w1 ⟨rfl,h1,f1⟩);obtain⟨bc,bf⟩:=h1.q01;obtain⟨c5,X⟩:=HC.o _ h1.bel;have H1:=qh h1;have F1:=qh f1;clear q0 q1 h1 f1 K0;go_wp2_with fail;clear bc bf c5 X;go_loopw [20] (λ i wr=>∃ k:Nat,i = bk bl k/\k<=N.length/\oM w0 wr g H I (l ++ xZ N M ⟨#[]⟩ ++ (N.take k).flatMap (rJ N M))/\(l ++ xZ N M ⟨#[]⟩ ++ (N.take k).flatMap (rJ N M)).length<=2000+6*k/\rO w0 w wr) (λ i _=>302 - (intOf i).toNat)
 case atStart=>exact⟨0,rfl,bT _,by rw[bB,bO,bv];exact H1.o,by rw[bB,bO,bv,bw];omega,F1.o⟩
 case round =>
  obtain⟨k,rfl,hk,m,Y,ab⟩:=hrel;have aa:=qh ab;by_cases hlt:k<N.length
  .have V:=m.bel;obtain⟨ad,lW,tl,ao,hX,O,T,hc⟩:=RH (HA.o) hlt;obtain rfl:AN=some ad:=SH.o.1.symm.trans ao;have lL:=qh (show ∀ cur,EG w0 cur->Calls Tryz.prog 93 #[bp (some ⟨H,0,none⟩),bk bl k] cur λ e w'=>e = br (bm (jC N N[k]))/\cur=w' from λ cur o=>uT (HA.o.keep o) hN k hlt);have r:=qh (show l ++ xZ N M ⟨#[]⟩ ++ (N.take (k+1)).flatMap (rJ N M)=(l ++ xZ N M ⟨#[]⟩ ++ (N.take k).flatMap (rJ N M)) ++ rJ N M N[k] by rw[xN hlt];simp only[bE]);obtain⟨d,hd⟩:=af (N[k]);obtain⟨L,hL⟩:=af (l ++ xZ N M ⟨#[]⟩ ++ (N.take k).flatMap (rJ N M));rw[hL] at r m Y;rw[hd] at r hX lL;have ac:=(RG hX).2;obtain⟨an,Q,a1⟩:=RI hX tl;obtain⟨cs,ak⟩:=af (lW ++ tl);rw[ak] at Q O T hc;have yK:=yl (w:=wr) O (ad:=ad.add (k*23)) (λ j u hu=>Below.cell_of V (hc j u hu));have Cc:=Dp (w:=wr) O T;obtain⟨W,hW⟩:=aH (wr.alloc (.cells cs.toArray 110 (0,0)));have lJ:EG wr W:=hW▸aB wr _;have hI:I3 w0 W g H I wr.heap.size 0 cs.toArray none (2000+6*k) (L):=⟨m.keep lJ,hW▸ag.new wr _ _,λ e q=>(by cases q),Y⟩;obtain⟨s,hs⟩:=af (d.it.nm);rw[hs] at Q ac;have S:=qh (show ∀ (cur:World) (b6:Nat) (ds:Option (Array Value)) (n:Nat) (l:List jE),I3 w0 cur g H I wr.heap.size b6 cs.toArray ds (n) (l)->cur.cell? ⟨g,0,none⟩=some (bp (some ⟨H,0,none⟩))/\cur.cell? ⟨g,1,none⟩=some (bp (some ⟨I,0,none⟩))/\cur.cell? ⟨wr.heap.size,0,none⟩=some (bk bl d.it.k)/\cur.cell? ⟨wr.heap.size,1,none⟩=some (bm s)/\(qG 59 (bp (some ⟨wr.heap.size,0,none⟩))).run Tryz.prog cur = .ok (.agg lW.toArray) cur/\(qG 57 (bp (some ⟨wr.heap.size,8,none⟩))).run Tryz.prog cur = .ok (.agg an.toArray) cur from λ cur b6 ds n l q=>⟨q.df.q01.1,q.df.q01.2,Q.at_ q.bx⟩);have WR:=qh (show ∀ cur,EG w0 cur->Calls Tryz.prog 36 #[bp (some ⟨I,0,none⟩),bm s] cur λ e w'=>e = br (bk bl (bG M s))/\cur=w' from λ cur o=>oD (HB.o.keep o) s ac);have a:=qh hI;have p:=qh (rO.of lJ V.size);have aX:=qh hlt;have HX:=qh (bs hX a1);obtain⟨c5,X⟩:=HC.o _ V;go_upto_region 4 with (fail);rw[<- hW];clear yK Cc hW c5 X hI hX a1 hc T O ak Q m hL lJ ab;obtain⟨C,B,D,t,A,z⟩:=S.o _ _ _ _ _ a.o;by_cases h0:bG M s<0
   .have HZ:=qh (r.o.trans (by rw[aaz (by rw[hs];exact h0),hs]));obtain⟨q,hq⟩:=af (bG M s);rw[hq] at h0 WR;have be:decide (q<0)=true:=decide_eq_true h0;clear hq hd hs r;go_wp2_with (first
     | (go_at_call 36;(with_reducible refine (WR.o _ a.o.df.bel).mono ?_);rintro e9 F ⟨rfl,rfl⟩)
     | (go_at_call 46;(with_reducible refine (a.o.tell (by omega) true 1 s).mono ?_);rintro e9 F ⟨rfl,c,E⟩;clear C B D t A z;have a:=qh c;have p:=qh (p.o.trans E);obtain⟨C,B,D,t,A,z⟩:=S.o _ _ _ _ _ c;clear c E))
    go_roundw
    case rel=>exact⟨k+1,by go_num,aX.o,by rw[HZ.o];exact a.o.df,by rw[HZ.o];have:=a.o.len;omega,aa.o.trans p.o⟩
    case measure =>
     have:=aX.o;simp[intOf];omega
   .obtain⟨i,hi,ax⟩:=um h0;rw[hi] at WR;obtain⟨qQ,G,bi,aE,hY,bb,a7,aD⟩:=RH HB.o ax;obtain rfl:AM=some qQ:=SH.o.2.symm.trans aE;have ap:=qh (show ∀ cur,EG w0 cur->Calls Tryz.prog 93 #[bp (some ⟨I,0,none⟩),bk bl i] cur λ e w'=>e = br (bm (jC M M[i]))/\cur=w' from λ cur o=>uT (HB.o.keep o) hM i ax);obtain⟨e,he⟩:=af (M[i]);rw[he] at hY ap;have HZ:=qh (r.o.trans (by rw[aaA (by rw[hs];exact hi) (by rw[iY ax,he]),hs]));obtain⟨bn,al,aL⟩:=RI hY [];rw[bv] at al;have aZ:=(xh hY).2;have Z:=HA.o.le;have U:=HB.o.le;have K2:=qh (show ∀ cur,EG w0 cur->Calls Tryz.prog 94 #[.agg lW.toArray,.agg G.toArray] cur λ en w'=>en = br (bq (PL d.it e.it))/\EG cur w' from λ cur o=>afg (HX.o.1.keep (o.mono Z)) (hY.keep (o.mono U)) (bt Z o.size) (bt U o.size));have K3:=qh (show ∀ cur,EG w0 cur->Calls Tryz.prog 95 #[.agg an.toArray,.agg bn.toArray] cur λ en w'=>en = br (bq (bI d.it.ans.bare e.it.ans.bare))/\EG cur w' from λ cur o=>afi (HX.o.2.keep (o.mono Z)) (aL.keep (o.mono U)) (bt Z o.size) (bt U o.size));have K4:=qh (show ∀ cur,EG w0 cur->Calls Tryz.prog 96 #[.agg lW.toArray,.agg G.toArray] cur λ en w'=>en = br (bq (phB d.it e.it))/\EG cur w' from λ cur o=>afh (HX.o.1.keep (o.mono Z)) (hY.keep (o.mono U)) (bt Z o.size) (bt U o.size));have be:decide ((i:Int)<0)=false:=decide_eq_false (by omega);have a4:∀ cur,EG w0 cur->(qG 59 (bp (some (qQ.add (i*23))))).run Tryz.prog cur = .ok (.agg G.toArray) cur:=λ cur o=>vC al.n19 (λ j u hu=>Below.cell_of o (aD j u (by rw[cc (ce.1 hu).1];exact hu)));have ae:=qh (bs al (bs aZ a4));obtain⟨p1,aM⟩:=af (jC N d);obtain⟨p2,aR⟩:=af (jC M e);obtain⟨r5,a3⟩:=af (PL d.it e.it);obtain⟨r6,a0⟩:=af (bI d.it.ans.bare e.it.ans.bare);obtain⟨r7,aA⟩:=af (phB d.it e.it);obtain⟨g3,e3⟩:=af ((d.it.k == 4));obtain⟨g4,e4⟩:=af ((e.it.k == 4));rw[aM] at lL HZ;rw[aR] at ap HZ;rw[a3] at K2 HZ;rw[a0] at K3 HZ;rw[aA] at K4 HZ;rw[e3,e4] at HZ;clear h0 hi hd hs r hY aL al aZ a4 aD a7 bb aE he aM aR a3 a0 aA Z U;go_upto_region 8 with (first
     | (go_at_call 36;(with_reducible refine (WR.o _ a.o.df.bel).mono ?_);rintro e9 F ⟨rfl,rfl⟩)
     | (go_at_call 46;(with_reducible refine (a.o.tell (by omega) false 1 s).mono ?_);rintro e9 F ⟨rfl,c,E⟩;clear C B D t A z;have a:=qh c;have p:=qh (p.o.trans E);obtain⟨C,B,D,t,A,z⟩:=S.o _ _ _ _ _ c;clear c E))
    have a:=qh a.o.nil;obtain⟨-,c5⟩:=HC.o _ a.o.df.bel;have ba:=ae.o.2.2 _ a.o.df.bel;have a5:=Nq (w:=F) ae.o.1.n19 ae.o.2.1;obtain⟨W2,am⟩:=aH (F.alloc (.cells G.toArray 59 (0,0)));have ar:EG F W2:=am▸aB F _;have ay:I3 w0 W2 g H I wr.heap.size F.heap.size cs.toArray (some G.toArray) (2000+6*k+1) (L):=by
     have q:=a.o.later ar;exact⟨q.df,q.bx,λ e0 q0=>(by injection q0 with q0;subst q0;exact am▸ag.new F _ _),q.len⟩
    have HY:=qh (show ∀ (cur:World) (n:Nat) (l:List jE),I3 w0 cur g H I wr.heap.size F.heap.size cs.toArray (some G.toArray) (n) (l)->cur.cell? ⟨F.heap.size,0,none⟩=some (bk bl e.it.k)/\(qG 59 (bp (some ⟨F.heap.size,0,none⟩))).run Tryz.prog cur = .ok (.agg G.toArray) cur/\(qG 57 (bp (some ⟨F.heap.size,8,none⟩))).run Tryz.prog cur = .ok (.agg bn.toArray) cur from λ cur n l q=>⟨(ae.o.1.at_ (q.Qh _ rfl)).1,(ae.o.1.at_ (q.Qh _ rfl)).2.2⟩);have p:=qh (p.o.trans (rO.of ar a.o.df.bel.size));have a:=qh ay;go_upto_region 9 with (fail);rw[<- am];clear am ar ay ba a5 c5 C B D t A z;go_cut [] from 52 to 67 (λ wd=>Hid (I3 w0 wd g H I wr.heap.size F.heap.size cs.toArray (some G.toArray) (2000+6*k+1+1) (L ++ x8 (!(p1.toList == p2.toList)) 3 s))/\Hid (rO w0 wr wd))
    case first =>
     have HQ:=qh a.o.df.q01;go_region_held3 (λ w'=>w'.cell? ⟨g,0,none⟩=some (bp (some ⟨H,0,none⟩))/\w'.cell? ⟨g,1,none⟩=some (bp (some ⟨I,0,none⟩)))
      (first | exact a.o.drew.df.q01 | exact a.o.df.q01 | exact aq)
      (first
       | (go_at_call 93;(first | (with_reducible refine (lL.o _ a.o.drew.df.bel).mono ?_) | (with_reducible refine (ap.o _ a.o.drew.df.bel).mono ?_));rintro e8 w8 ⟨rfl,rfl⟩)
       | (go_at_call 46;(with_reducible refine (a.o.drew.tell (by omega) _ 3 s).mono ?_);rintro e9 a6 ⟨rfl,c,E⟩;have aq:=c.df.q01;have OU:=qh (bs c E);clear c E))
     all_goals
      (try go_wp2_with fail)
      go_meet
      exact⟨qh OU.o.1,qh ((p.o.trans (rO.of (Below.refl _ _).drew a.o.df.bel.size)).trans OU.o.2)⟩
    case rest =>
     obtain⟨a,p⟩:=hcut;obtain⟨C,B,D,t,A,z⟩:=S.o _ _ _ _ _ a.o;obtain⟨P,R,J⟩:=HY.o _ _ _ a.o;obtain⟨b,o⟩:=af ((g3 && g4));rw[o] at HZ;obtain⟨b6,aw⟩:=af (F.heap.size);rw[aw] at a HY;simp only[aw] at P R J ⊢;clear aw;go_upto_region 11 with (first
       | (go_at_call 94;(with_reducible refine (K2.o _ a.o.df.bel).mono ?_);rintro e9 F ⟨rfl,c⟩;clear C B D t A z P R J;have p:=qh (p.o.trans (rO.of c a.o.df.bel.size));have a:=qh (a.o.later c);obtain⟨C,B,D,t,A,z⟩:=S.o _ _ _ _ _ a.o;obtain⟨P,R,J⟩:=HY.o _ _ _ a.o;clear c)
       | (go_at_call 46;(with_reducible refine (a.o.tell (by omega) _ _ s).mono ?_);rintro e9 F ⟨rfl,c,E⟩;clear C B D t A z P R J;have a:=qh c;have p:=qh (p.o.trans E);obtain⟨C,B,D,t,A,z⟩:=S.o _ _ _ _ _ c;obtain⟨P,R,J⟩:=HY.o _ _ _ c;clear c E))
     go_cut [7] from 76 to 84 (λ v wd=>v = bq b/\Hid (I3 w0 wd g H I wr.heap.size b6 cs.toArray (some G.toArray) (2000+6*k+1+1+1) (L ++ x8 (!(p1.toList == p2.toList)) 3 s ++ x8 (!r5) 5 s))/\Hid (rO w0 wr wd))
     case first =>
      cases g3;rotate_left;cases g4
      all_goals
       go_wp2_with fail
       go_meet
       exact⟨by rw[<- o];rfl,a,p⟩
     case rest =>
      obtain⟨rfl,a,p⟩:=hcut;clear C B D t A z P R J e3 e4 o K2;obtain⟨C,B,D,t,A,z⟩:=S.o _ _ _ _ _ a.o;obtain⟨P,R,J⟩:=HY.o _ _ _ a.o;go_upto_region 12 with (fail);go_cut [] from 85 to 97 (λ wd=>Hid (I3 w0 wd g H I wr.heap.size b6 cs.toArray (some G.toArray) (2000+6*k+1+1+1+1) (L ++ x8 (!(p1.toList == p2.toList)) 3 s ++ x8 (!r5) 5 s ++ x8 (b && !r6) 6 s))/\Hid (rO w0 wr wd))
      case first =>
       cases b
       all_goals
        go_wp2_with (first
         | (go_at_call 95;(with_reducible refine (K3.o _ a.o.df.bel).mono ?_);rintro e9 F ⟨rfl,c⟩;clear C B D t A z P R J;have p:=qh (p.o.trans (rO.of c a.o.df.bel.size));have a:=qh (a.o.later c);obtain⟨C,B,D,t,A,z⟩:=S.o _ _ _ _ _ a.o;obtain⟨P,R,J⟩:=HY.o _ _ _ a.o;clear c)
         | (go_at_call 46;(with_reducible refine (a.o.tell (by omega) _ _ s).mono ?_);rintro e9 F ⟨rfl,c,E⟩;clear C B D t A z P R J;have a:=qh c;have p:=qh (p.o.trans E);obtain⟨C,B,D,t,A,z⟩:=S.o _ _ _ _ _ c;obtain⟨P,R,J⟩:=HY.o _ _ _ c;clear c E))
        go_meet
        exact⟨a,p⟩
      case rest =>
       obtain⟨a,p⟩:=hcut;clear C B D t A z P R J K3;obtain⟨C,B,D,t,A,z⟩:=S.o _ _ _ _ _ a.o;obtain⟨P,R,J⟩:=HY.o _ _ _ a.o;go_wp2_with (first
        | (go_at_call 96;(with_reducible refine (K4.o _ a.o.df.bel).mono ?_);rintro e9 F ⟨rfl,c⟩;clear C B D t A z P R J;have p:=qh (p.o.trans (rO.of c a.o.df.bel.size));have a:=qh (a.o.later c);obtain⟨C,B,D,t,A,z⟩:=S.o _ _ _ _ _ a.o;obtain⟨P,R,J⟩:=HY.o _ _ _ a.o;clear c)
        | (go_at_call 46;(with_reducible refine (a.o.tell (by omega) _ _ s).mono ?_);rintro e9 F ⟨rfl,c,E⟩;clear C B D t A z P R J;have a:=qh c;have p:=qh (p.o.trans E);obtain⟨C,B,D,t,A,z⟩:=S.o _ _ _ _ _ c;obtain⟨P,R,J⟩:=HY.o _ _ _ c;clear c E)
        | (go_at_call 92;(with_reducible refine (a.o.order HA.o HB.o hN hM (by omega) s).mono ?_);rintro e9 F ⟨rfl,c,E⟩;clear C B D t A z P R J;have a:=qh c;have p:=qh (p.o.trans E);obtain⟨C,B,D,t,A,z⟩:=S.o _ _ _ _ _ c;obtain⟨P,R,J⟩:=HY.o _ _ _ c;clear c E))
       go_roundw
       case rel=>exact⟨k+1,by go_num,aX.o,by rw[HZ.o];simp only[<- bE];exact a.o.df,by rw[HZ.o];simp only[<- bE];exact bt a.o.len (by omega),aa.o.trans p.o⟩
       case measure =>
        have:=aX.o;simp[intOf];omega
  .have e:k=N.length:=by omega
   subst e;have HE:=qh (show l ++ nG N M=l ++ xZ N M ⟨#[]⟩ ++ N.flatMap (rJ N M) ++ M.flatMap (GM N) by rw[a9.o];simp only[bE]);rw[bN] at m Y;obtain⟨L,hL⟩:=af (l ++ xZ N M ⟨#[]⟩ ++ N.flatMap (rJ N M));rw[hL] at m Y HE;have H1:=qh m;obtain⟨q0,q1⟩:=m.q01;obtain⟨c5,X⟩:=HC.o _ m.bel;clear m hL ab;go_wp2_with fail;clear q0 q1 c5 X;go_loopw [118] (λ i wr=>∃ k:Nat,i = bk bl k/\k<=M.length/\oM w0 wr g H I (L ++ (M.take k).flatMap (GM N))/\(L ++ (M.take k).flatMap (GM N)).length<=5000+k/\rO w0 w wr) (λ i _=>302 - (intOf i).toNat)
   case atStart=>exact⟨0,rfl,bT _,by rw[bB,bO,bv];exact H1.o,by rw[bB,bO,bv];omega,aa.o⟩
   case round =>
    obtain⟨k,rfl,hk,m,Y,ab⟩:=hrel;have aa:=qh ab;by_cases hlt:k<M.length
    .have V:=m.bel;obtain⟨ad,lW,tl,ao,hX,O,T,hc⟩:=RH (HB.o) hlt;obtain rfl:AM=some ad:=SH.o.2.symm.trans ao;have r:=qh (show L ++ (M.take (k+1)).flatMap (GM N)=(L ++ (M.take k).flatMap (GM N)) ++ GM N M[k] by rw[xN hlt];simp only[bE]);obtain⟨d,hd⟩:=af (M[k]);rw[hd,acQ] at r;obtain⟨L2,a2⟩:=af (L ++ (M.take k).flatMap (GM N));rw[a2] at r m Y;rw[hd] at hX;have ac:=(RG hX).2;obtain⟨an,Q,-⟩:=RI hX tl;obtain⟨cs,ak⟩:=af (lW ++ tl);rw[ak] at Q O T hc;have yK:=yl (w:=wr) O (ad:=ad.add (k*23)) (λ j u hu=>Below.cell_of V (hc j u hu));have Cc:=Dp (w:=wr) O T;obtain⟨W,hW⟩:=aH (wr.alloc (.cells cs.toArray 110 (0,0)));have lJ:EG wr W:=hW▸aB wr _;have hI:I3 w0 W g H I wr.heap.size 0 cs.toArray none (5000+k) (L2):=⟨m.keep lJ,hW▸ag.new wr _ _,λ e q=>(by cases q),Y⟩;obtain⟨s,hs⟩:=af (d.it.nm);rw[hs] at Q ac r;have S:=qh (show ∀ (cur:World) (b6:Nat) (ds:Option (Array Value)) (n:Nat) (l:List jE),I3 w0 cur g H I wr.heap.size b6 cs.toArray ds (n) (l)->cur.cell? ⟨g,0,none⟩=some (bp (some ⟨H,0,none⟩))/\cur.cell? ⟨wr.heap.size,1,none⟩=some (bm s) from λ cur b6 ds n l q=>⟨q.df.q01.1,(Q.at_ q.bx).2.1⟩);obtain⟨q,hq⟩:=af (bG N s);obtain⟨b,o⟩:=af (decide (q<0));rw[hq,o] at r;have WR:=qh (show ∀ cur,EG w0 cur->Calls Tryz.prog 36 #[bp (some ⟨H,0,none⟩),bm s] cur λ e w'=>e = br (bk bl q)/\cur=w' from λ cur o=>hq▸oD (HA.o.keep o) s ac);have a:=qh hI;have p:=qh (rO.of lJ V.size);have aX:=qh hlt;obtain⟨c5,X⟩:=HC.o _ V;go_upto_region 19 with (fail);rw[<- hW];clear yK Cc hW c5 X hI hX hc T O ak Q m a2 lJ ab hq hs hd;go_region_held3 (λ w'=>w'.cell? ⟨g,0,none⟩=some (bp (some ⟨H,0,none⟩))/\w'.cell? ⟨wr.heap.size,1,none⟩=some (bm s))
      (first | exact S.o _ _ _ _ _ a.o.drew | exact S.o _ _ _ _ _ a.o | exact aq)
      (first
       | (go_at_call 36;(with_reducible refine (WR.o _ a.o.drew.df.bel).mono ?_);rintro e8 w8 ⟨rfl,rfl⟩)
       | (go_at_call 46;(with_reducible refine (a.o.drew.tell (by omega) _ 2 s).mono ?_);rintro e9 a6 ⟨rfl,c,E⟩;have aq:=S.o _ _ _ _ _ c;have OU:=qh (bs c E);clear c E))
     all_goals
      (try go_wp2_with fail)
      go_roundw
      case rel=>exact⟨k+1,by go_num,aX.o,by rw[r.o];exact OU.o.1.df,by rw[r.o];exact bt OU.o.1.len (by omega),(aa.o.trans (p.o.trans (rO.of (Below.refl _ _).drew a.o.df.bel.size))).trans OU.o.2⟩
      case measure =>
       have:=aX.o;simp[intOf];omega
    .have e:k=M.length:=by omega
     subst e;rw[bN] at m;have HZ:=qh m;clear m;go_wp2_with fail;go_end0;exact⟨rfl,by rw[HE.o];exact HZ.o,aa.o⟩
end Go.Proofs.YtcnagconagpkcaaGreatDoor
