/- Lemmas. -/
import Derived.Test.YtcnagconagpkcaaGreatDoorZ21
import Derived.Lib.AppendZeros
set_option maxHeartbeats 400000
set_option maxRecDepth 100000
open Go.Value renaming int->ap, string->av, slice->aw, pointer->ax, bool->ay, oneCell'->bK
open Go.IntKind renaming i64->aq
open Go.Ending renaming returned->aD
open Go.DataW renaming trod->aE, trod_struct->bf
open Nat renaming le_trans->aL, le_refl->aZ, zero_le->ba, strongRecOn->bL
open And renaming intro->aM
open List.cons renaming injEq->aR
open List renaming drop_zero->bb, drop_succ_cons->bc, take_succ_cons->bd, take_zero->be, mem_cons->bg, mem_or_eq_of_mem_set->bh, getElem?_eq_getElem->bi, length_append->bj, drop_append_of_le_length->bk, drop_length->bm, nil_append->bn, take_of_length_le->bo, take_succ_eq_append_getElem->bp, map_cons->bq, sum_cons->br, take_length->bs, getElem_append_left->bt, take_append_of_le_length->bv, length_drop->bw, length_take->bx, getElem_mem->bA, not_mem_nil->bB, getElem?_set_ne->bE, drop_eq_getElem_cons->bN, all_eq_true->bO
namespace Go.Proofs.YtcnagconagpkcaaGreatDoor
open Go.RowKit
attribute [local go_sem ↓] Go.wp_at_zero Go.wp_at_succ
set_option maxHeartbeats 4000000
set_option maxRecDepth 100000
theorem aU.stay {g:Nat} {w w':World} {p:Nat->Prop} (h:aU g w w') (a:∀ k,p k->k≠g):dI p w w':=⟨Nat.le_of_eq h.size.symm,λ k b _=>h.far k (a k b)⟩
theorem aU.own {g B size n:Nat} {w w':World} {e:TypeId} {v:Value} {xs:List Value} (h:aU g w w') (b:w.ownsRow B e size v n xs) (j:g<B):w'.ownsRow B e size v n xs:=by
 refine⟨b.1,b.2.imp id ?_⟩;rintro ⟨c,a,cur,i,d,f,e3⟩;exact⟨c,a,cur,i,d,(h.far c (by omega)).trans f,e3⟩
theorem aeY {c:Func} {s:Tmp} {tmps:Array Value} {a:World} {g:Nat} {a0 a1 a2 a3 f k r n:Value} {Q:Ending->World->Prop} (i:c.results = #[.cell s 65]) (l:tmps[s]?.getD undef = ax (some ⟨g,0,none⟩)) (B:ag a g 65 #[f,k,r,n]) (h:∀ W,aU g a W->Q (aD (.agg #[a0,a1,a2,a3])) W) :
  bodyPost Tryz.prog c Q Exit.ret { tmps:=tmps,defers:=[] } ((((a.setCell ⟨g,0,none⟩ a0).setCell ⟨g,1,none⟩ a1).setCell ⟨g,2,none⟩ a2).setCell ⟨g,3,none⟩ a3):=by
 obtain⟨W,e,b,d⟩:∃ W,W=((((a.setCell ⟨g,0,none⟩ a0).setCell ⟨g,1,none⟩ a1).setCell ⟨g,2,none⟩ a2).setCell ⟨g,3,none⟩ a3)/\ag W g 65 #[a0,a1,a2,a3]/\aU g a W:=⟨_,rfl,((((B.dS 0 a0).dS 1 a1).dS 2 a2).dS 3 a3),((((aU.refl g a).set 0 a0).set 1 a1).set 2 a2).set 3 a3⟩;have q:=h W d;rw[<- e];clear e B d h;have m:W.cell? ⟨g,0,none⟩=some a0:=b.cell 0;have p:W.cell? ⟨g,1,none⟩=some a1:=b.cell 1;have j:W.cell? ⟨g,2,none⟩=some a2:=b.cell 2;have o:W.cell? ⟨g,3,none⟩=some a3:=b.cell 3;exact bodyPost_ret (v:=.agg #[a0,a1,a2,a3]) (by simp[results,i,go_sem,l,m,p,j,o]) rfl q
theorem al4 {c:Func} {s:Tmp} {tmps:Array Value} {b:World} {g:Nat} {a0 a1 a2 a3 a4 a5 a6 a7 f l C u p i n q:Value} {Q:Ending->World->Prop} (j:c.results = #[.cell s 67]) (o:tmps[s]?.getD undef = ax (some ⟨g,0,none⟩)) (B:ag b g 67 #[f,l,C,u,p,i,n,q]) (h:∀ W,aU g b W->Q (aD (.agg #[a0,a1,a2,a3,a4,a5,a6,a7])) W) :
  bodyPost Tryz.prog c Q Exit.ret { tmps:=tmps,defers:=[] } ((((((((b.setCell ⟨g,0,none⟩ a0).setCell ⟨g,1,none⟩ a1).setCell ⟨g,2,none⟩ a2).setCell ⟨g,3,none⟩ a3).setCell ⟨g,4,none⟩ a4).setCell ⟨g,5,none⟩ a5).setCell ⟨g,6,none⟩ a6).setCell ⟨g,7,none⟩ a7):=by
 obtain⟨W,e,a,d⟩:∃ W,W=((((((((b.setCell ⟨g,0,none⟩ a0).setCell ⟨g,1,none⟩ a1).setCell ⟨g,2,none⟩ a2).setCell ⟨g,3,none⟩ a3).setCell ⟨g,4,none⟩ a4).setCell ⟨g,5,none⟩ a5).setCell ⟨g,6,none⟩ a6).setCell ⟨g,7,none⟩ a7)/\ag W g 67 #[a0,a1,a2,a3,a4,a5,a6,a7]/\aU g b W:=⟨_,rfl,((((((((B.dS 0 a0).dS 1 a1).dS 2 a2).dS 3 a3).dS 4 a4).dS 5 a5).dS 6 a6).dS 7 a7),((((((((aU.refl g b).set 0 a0).set 1 a1).set 2 a2).set 3 a3).set 4 a4).set 5 a5).set 6 a6).set 7 a7⟩;have A:=h W d;rw[<- e];clear e B d h;have r:W.cell? ⟨g,0,none⟩=some a0:=a.cell 0;have y:W.cell? ⟨g,1,none⟩=some a1:=a.cell 1;have k:W.cell? ⟨g,2,none⟩=some a2:=a.cell 2;have x:W.cell? ⟨g,3,none⟩=some a3:=a.cell 3;have w:W.cell? ⟨g,4,none⟩=some a4:=a.cell 4;have z:W.cell? ⟨g,5,none⟩=some a5:=a.cell 5;have m:W.cell? ⟨g,6,none⟩=some a6:=a.cell 6;have t:W.cell? ⟨g,7,none⟩=some a7:=a.cell 7;exact bodyPost_ret (v:=.agg #[a0,a1,a2,a3,a4,a5,a6,a7]) (by simp[results,j,go_sem,o,r,y,k,x,w,z,m,t]) rfl A
theorem z8 {w:World} {g:Nat} {T:TypeId} {j i d a f b c e:Value} (h:ag w g T #[j,i,d,a,f,b,c,e]):w.cell? ⟨g,0,none⟩=some j/\w.frozen? ⟨g,0,none⟩=false/\w.cell? ⟨g,1,none⟩=some i/\w.frozen? ⟨g,1,none⟩=false/\w.cell? ⟨g,2,none⟩=some d/\w.frozen? ⟨g,2,none⟩=false/\w.cell? ⟨g,3,none⟩=some a/\w.frozen? ⟨g,3,none⟩=false/\w.cell? ⟨g,4,none⟩=some f/\w.frozen? ⟨g,4,none⟩=false/\w.cell? ⟨g,5,none⟩=some b/\w.frozen? ⟨g,5,none⟩=false/\w.cell? ⟨g,6,none⟩=some c/\w.frozen? ⟨g,6,none⟩=false/\w.cell? ⟨g,7,none⟩=some e/\w.frozen? ⟨g,7,none⟩=false:=⟨h.cell 0,h.frozen 0,h.cell 1,h.frozen 1,h.cell 2,h.frozen 2,h.cell 3,h.frozen 3,h.cell 4,h.frozen 4,h.cell 5,h.frozen 5,h.cell 6,h.frozen 6,h.cell 7,h.frozen 7⟩
theorem acv (l:List Int) (A:Option Addr) (c B:Nat) (w:World) (n:Reads w B 1 A l.length (bF aq l)) (q:l.length<=1099511627776) :
  Calls Tryz.prog 80 #[aw A l.length c] w λ e w'=>∃ v,e = aD v/\w'.ownsRow w.heap.size 3 1 v l.length (bF aq l)/\EG w w':=by
 rcases Nat.eq_zero_or_pos l.length with g | g
 .have m:=List.eq_nil_of_length_eq_zero g;subst m;cases A with
  | none=>exact (Tryz.slices_Clone_int_nil 0 c w).mono λ _ _ ⟨d,p⟩=>⟨_,d,World.ownsRow_nil _ _ _ _,p▸Below.refl _ _⟩
  | some a=>exact (Tryz.slices_Clone_int_zero a c w).mono λ _ _ ⟨v,d,f,_,h⟩=>⟨v,d,f,h⟩
 .obtain⟨b,o,rfl,-,k⟩:=n.plain g;refine (Tryz.slices_Clone_int b o l.length c l w (aZ _) (by omega) (λ j i=>by
   refine k j _ ?_;unfold bF;rw[List.getElem?_map,bi i];simp[List.getD,i])).mono λ _ _ ⟨v,d,f,_,h⟩=>⟨v,d,?_,h⟩
  rw[bs] at f;exact f
theorem Rl (v:Val) (A:Option Addr) (c B:Nat) (w:World) (G:Reads w B 1 A v.l.length (bF aq v.l)) (P:B<=w.heap.size) (R:v.l.length<=1048576) :
  Calls Tryz.prog 129 #[.agg (BK v A c)] w λ e w'=>(∃ A' c',e = aD (.agg (BK v A' c'))/\w'.ownsRow (w.heap.size+2) 3 1 (aw A' v.l.length c') v.l.length (bF aq v.l))/\EG w w':=by
 obtain⟨H,d,h,B1⟩:=box w 65 (BK v A c);obtain⟨J,j,b,B2⟩:=box H 65 #[ap aq 0,ap aq 0,av ⟨#[]⟩,aw none 0 0];have u:H.heap.size=w.heap.size+1:=by rw[d];simp
 have s:J.heap.size=w.heap.size+2:=by rw[j];simp[u]
 have g:=h.trans (b.mono h.size);have N:=qh (acv v.l A c B J (G.below (g.mono P)) (by omega));have B1:=B1.below b B1.lt;rw[u] at B2;obtain⟨o,u0,n,u1,q,u2,p,u3⟩:=s4 B1;have m:=qh (aM B1 B2);clear G B1 B2 h b;go_enter Tryz.func129,Tryz.ntmps129;go_upto_region 1 with (fail);rw[<- d,<- j];clear d j u;go_upto_region 2 with (go_at_call 80;(with_reducible refine N.o.mono ?_);rintro e3 y ⟨x,rfl,i,a⟩;obtain⟨A',c',rfl⟩:=jT i;have B1:=m.o.1.below a m.o.1.lt;have B2:=m.o.2.below a m.o.2.lt;have l:=qh (aM B1 B2);clear o u0 n u1 q u2 p u3;obtain⟨o,u0,n,u1,q,u2,p,u3⟩:=s4 B1;obtain⟨z,D,E,L,C,F,I,M⟩:=s4 B2);have k:=g.trans (a.mono g.size);have Q:=qh i;have O:=a.size;clear i a o u0 n u1 q u2 p u3 z D E L C F I M B1 B2;obtain⟨W4,r⟩:=aH (y.setCell ⟨w.heap.size,3,none⟩ (aw A' v.l.length c'));have f:aU w.heap.size y W4:=r▸(aU.refl _ _).set 3 _;have B1:ag W4 w.heap.size 65 (BK v A' c'):=r▸l.o.1.dS 3 _;have B2:=f.blk l.o.2 (by omega);obtain⟨o,u0,n,u1,q,u2,p,u3⟩:=s4 B1;obtain⟨z,D,E,L,C,F,I,M⟩:=s4 B2;have t:=qh B2;rw[<- r];clear r B1 B2;go_wp2;refine aeY rfl rfl t.o λ W K=>⟨⟨A',c',rfl,s▸K.own (f.own Q.o (by omega)) (by omega)⟩,(k.trans (f.below (aZ _))).trans (K.below (by omega))⟩
set_option maxHeartbeats 4000000
set_option maxRecDepth 100000
mutual
def Ex.bl:Ex->Nat
 | .mk _ _ _ v ar=>v.l.length+2+Ei ar
def Ei:List Ex->Nat
 | []=>0
 | a :: r=>a.bl+Ei r
end
theorem ZP (e:Ex):e.bl=e.v.l.length+2+Ei e.ar:=by cases e;rw[Ex.bl];rfl
theorem KJ {a:Ex}:∀ {l:List Ex},a∈l->a.bl<=Ei l
 | b :: r,h=>by
  rw[Ei];rcases bg.1 h with e | e
  .rw[e];omega
  .have:=KJ e;omega
theorem TF:∀ l:List Ex,l.length<=Ei l
 | []=>ba _
 | a :: r=>by rw[Ei,List.length_cons,ZP];have:=TF r;omega
theorem GH {w:World} {B n c size:Nat} {A:Option Addr} {e:TypeId} {xs:List Value} (h:w.ownsRow B e size (aw A n c) n xs):lq w (λ b=>B<=b) w.heap.size size A n xs:=by
 refine⟨Reads.fM h,λ i ad e=>?_⟩;subst e;rcases h.2 with ⟨a,-⟩ | ⟨g,d,cur,a,f,-⟩
 .injection a with a;cases a
 .injection a with a;injection a with a;subst a;exact f
theorem lq.impl {w:World} {p q:Nat->Prop} {B size n:Nat} {A:Option Addr} {xs:List Value} (h:lq w p B size A n xs) (a:∀ k,p k->q k):lq w q B size A n xs:=⟨h.r,λ b ad e=>a _ (h.l b ad e)⟩
def acw (w:World) (b:Nat) (A:Option Addr) (l:List Ex):Prop:=∃ cs,lq w (λ k=>b<=k) w.heap.size 8 A l.length cs/\∀ i (h:i<l.length),cO w (λ k=>b<=k) w.heap.size l[i] ((cs.drop (i*8)).take 8)
def ZQ (e:Ex):Prop:=∀ (w:World) (B:Nat) (cs:List Value),aQ w B e cs->B<=w.heap.size->e.bl<=1048576->Calls Tryz.prog 81 #[.agg cs.toArray] w λ en w'=>(∃ A1 c1 A2 c2,en = aD (.agg (az e A1 c1 A2 c2).toArray)/\cO w' (λ b=>w.heap.size<=b) w'.heap.size e (az e A1 c1 A2 c2))/\EG w w'
def ZR (l:List Ex):Prop:=∀ (w:World) (B:Nat) (A:Option Addr) (c:Nat),au aQ 8 w B A l->B<=w.heap.size->Ei l<=1048576->Calls Tryz.prog 79 #[aw A l.length c] w λ en w'=>(∃ A' c',en = aD (aw A' l.length c')/\l.length<=c'/\acw w' w.heap.size A' l)/\EG w w'
theorem OZ {e:Ex} (q:ZR e.ar):ZQ e:=by
 intro w B cs hE H X;rw[ZP] at X;obtain⟨hn,hs,V,ha,hx,hr,M⟩:=hE;rename_i A c E L P;obtain⟨W1,z,y,B1⟩:=box w 67 (BC e A c E e.ar.length L);obtain⟨W2,v,x,B2⟩:=box W1 67 #[ap aq 0,ap aq 0,av ⟨#[]⟩,ap aq 0,ap aq 0,av ⟨#[]⟩,aw none 0 0,aw none 0 0];have hz:W1.heap.size=w.heap.size+1:=by rw[z];simp
 have al:W2.heap.size=w.heap.size+2:=by rw[v];simp[hz]
 have j:=y.trans (x.mono y.size);have KV:=qh (Rl e.v A c B W2 (hx.below (j.mono H)) (aL H j.size) (by omega));have HR:=qh (show ∀ w',EG w w'->au aQ 8 w' B E e.ar from λ w' hq=>⟨ha,P,hr.below (hq.mono H),λ i h=>(M i h).keep (hq.mono H)⟩);have S:=qh q;have HL:=qh (aM hn (aM hs (aM V ha)));have B1:=B1.below x B1.lt;rw[hz] at B2;obtain⟨r,u0,n,u1,t,u2,s,u3,p,u4,o,u5,m,u6,u,u7⟩:=z8 B1;have N:=qh (aM B1 B2);clear hx hr M B1 B2 y x q hn hs V ha;change Calls _ _ #[.agg (BC e A c E e.ar.length L)] _ _;go_enter Tryz.func81,Tryz.ntmps81;go_upto_region 1 with (fail);rw[<- z,<- v];clear z v hz;go_upto_region 2 with (go_at_call 129;(with_reducible refine KV.o.mono ?_);rintro e3 w3 ⟨⟨O,K,rfl,D⟩,f⟩;have B1:=N.o.1.below f N.o.1.lt;have B2:=N.o.2.below f N.o.2.lt;have F:=qh (aM B1 B2);clear r u0 n u1 t u2 s u3 p u4 o u5 m u6 u u7;obtain⟨r,u0,n,u1,t,u2,s,u3,p,u4,o,u5,m,u6,u,u7⟩:=z8 B1);have C:=j.trans (f.mono j.size);have HO:=qh D;have aa:=f.size;clear D f r u0 n u1 t u2 s u3 p u4 o u5 m u6 u u7 B1 B2;obtain⟨W4,vP,g,B1⟩:∃ W,W=(((w3.setCell ⟨w.heap.size,3,none⟩ (ap aq e.v.k)).setCell ⟨w.heap.size,4,none⟩ (ap aq e.v.n)).setCell ⟨w.heap.size,5,none⟩ (av e.v.s)).setCell ⟨w.heap.size,6,none⟩ (aw O e.v.l.length K)/\aU w.heap.size w3 W/\ag W w.heap.size 67 (BC e O K E e.ar.length L):=⟨_,rfl,((((aU.refl _ _).set 3 _).set 4 _).set 5 _).set 6 _,(((F.o.1.dS 3 _).dS 4 _).dS 5 _).dS 6 _⟩;have B2:=g.blk F.o.2 (by omega);have l:=qh (aM B1 B2);have I:=C.trans (g.below (aZ _));have am:=g.size;have G7:=qh (g.own HO.o (by omega));have KA:=qh (S.o W4 B E L (HR.o _ I) (aL H I.size) (by omega));obtain⟨r,u0,n,u1,t,u2,s,u3,p,u4,o,u5,m,u6,u,u7⟩:=z8 B1;rw[<- vP];clear vP B1 B2 g;go_upto_region 3 with (go_at_call 79;(with_reducible refine KA.o.mono ?_);rintro e5 Y ⟨⟨Z,T,rfl,ab,G⟩,a⟩;have B1:=l.o.1.below a l.o.1.lt;have B2:=l.o.2.below a l.o.2.lt;have DX:=qh (aM B1 B2);clear r u0 n u1 t u2 s u3 p u4 o u5 m u6 u u7;obtain⟨r,u0,n,u1,t,u2,s,u3,p,u4,o,u5,m,u6,u,u7⟩:=z8 B1);have uO:=I.trans (a.mono I.size);have PY:=qh (dm G7.o a);have R:=qh G;have ac:=a.size;clear G a r u0 n u1 t u2 s u3 p u4 o u5 m u6 u u7 B1 B2;obtain⟨W6,Jg,d,B1⟩:∃ W,W=Y.setCell ⟨w.heap.size,7,none⟩ (aw Z e.ar.length T)/\aU w.heap.size Y W/\ag W w.heap.size 67 (BC e O K Z e.ar.length T):=⟨_,rfl,(aU.refl _ _).set 7 _,DX.o.1.dS 7 _⟩;have B2:=d.blk DX.o.2 (by omega);have U:=qh B2;obtain⟨r,u0,n,u1,t,u2,s,u3,p,u4,o,u5,m,u6,u,u7⟩:=z8 B1;obtain⟨r0,t0,r1,t1,r2,t2,r3,t3,r4,t4,r5,t5,r6,t6,r7,t7⟩:=z8 B2;rw[<- Jg];clear Jg B1 B2;go_wp2;refine al4 rfl rfl U.o λ W J=>?_;have ad:=J.size;have ak:=d.size;refine⟨⟨O,K,Z,T,rfl,?_⟩,(uO.trans (d.below (aZ _))).trans (J.below (by omega))⟩;obtain⟨h1,h2,h3,h4⟩:=HL.o;obtain⟨ae,r5,i5⟩:=R.o;have st:dI (λ b=>W4.heap.size<=b) Y W:=⟨by omega,λ k Q V=>(J.far k (by omega)).trans (d.far k (by omega))⟩;exact cO.mk h1 h2 h3 h4 ((GH (J.own (d.own PY.o (by omega)) (by omega))).impl (λ k Q=>by omega)) (((r5.keep st).up (by omega)).impl (λ k Q=>by omega)) (λ i M=>((((i5 i M).keep st).up (by omega)).imp (λ k Q _=>by omega)))
set_option maxHeartbeats 4000000
set_option maxRecDepth 100000
def CO (B:Nat) (v:Value) (b:Nat):Prop:=B<=b/\v.ownBlock≠some b
def ExS (B:Nat) (w:World) (v:Value) (P:List Ex):Prop:=∃ cs,w.ownsRow B 67 8 v P.length cs/\∀ i (h:i<P.length),cO w (CO B v) w.heap.size P[i] ((cs.drop (i*8)).take 8)
theorem ExS.later {B:Nat} {w w':World} {v:Value} {P:List Ex} (h:ExS B w v P) (a:EG w w'):ExS B w' v P:=by
 obtain⟨cs,b,d⟩:=h;exact⟨cs,dm b a,λ i c=>((d i c).keep (dI.of a)).up a.size⟩
theorem ExS.push {B:Nat} {w w':World} {v c:Value} {P:List Ex} {e:Ex} {cs ds:List Value} (s:w.ownsRow B 67 8 v P.length cs) (t:∀ i (h:i<P.length),cO w (CO B v) w.heap.size P[i] ((cs.drop (i*8)).take 8)) (r:cO w (CO B v) w.heap.size e ds) (a:ds.length=8)
  (m:w'.ownsRow B 67 8 c (P.length+1) (cs ++ ds)) (j:w.grownBy w' v.ownBlock) (f:c.ownBlock=v.ownBlock\/c.ownBlock=some w.heap.size):ExS B w' c (P ++ [e]):=by
 have l:cs.length=P.length*8:=s.1;have d:∀ {x:Ex} {xs:List Value},cO w (CO B v) w.heap.size x xs->cO w' (CO B c) w'.heap.size x xs:=λ p=>(((p.imp (q:=λ b=>B<=b/\v.ownBlock≠some b/\b<w.heap.size) (λ k a n=>⟨a.1,a.2,n⟩)).keep (dI.grown j (λ k a e=>a.2.1 e.symm))).up j.size).imp (λ k a _=>⟨a.1,by
  rcases f with e | e
  .rw[e];exact a.2.1
  .rw[e];intro g;injection g with g;omega⟩)
 refine⟨cs ++ ds,by rw[bj];exact m,λ i o=>?_⟩;rw[bj,List.length_singleton] at o;by_cases hlt:i<P.length
 .rw[bt hlt,bk (by omega),bv (by rw[bw];omega)];exact d (t i hlt)
 .obtain rfl:i=P.length:=by omega
  rw[<- l,bk (by omega),bm,bn,bo (by omega)];simpa using d r
theorem aeZ:(Tryz.prog.info? 67).map (λ i=>(i.zero,i.size,i.bytes))=some (some (.agg #[.int .i64 0,.int .i64 0,.string ⟨#[]⟩,.int .i64 0,.int .i64 0,.string ⟨#[]⟩,.slice none 0 0,.slice none 0 0]),8,112):=by kernel_rfl
theorem Aq {l:List Ex} (o:∀ e∈l,ZQ e):ZR l:=by
 intro w B A c hL T ao;obtain⟨j0,ae,aa,W,ak⟩:=info_parts aeZ;have an:=TF l;have HL:=qh hL;have HR:=qh (show ∀ e∈l,ZQ e/\e.bl<=1048576 from λ e C=>⟨o e C,by have:=KJ C;omega⟩);clear hL o;go_enter Tryz.func79,Tryz.ntmps79;go_wp2;go_loopw [8,3] (λ i v wr=>∃ k:Nat,i = ap aq k/\k<=l.length/\Hid (ExS w.heap.size wr v (l.take k))/\Hid (EG w wr)) (λ i _ _=>l.length+1 - (intOf i).toNat)
 case atStart=>exact⟨0,rfl,ba _,qh ⟨[],World.ownsRow_nil _ _ _ _,λ i h=>by cases h⟩,qh (Below.refl _ _)⟩
 case round =>
  obtain⟨k,rfl,hk,HS,HB⟩:=hrel;have K:=HB.o;have hs:=K.size;obtain⟨z,a,f⟩:=HS.o;have m:(l.take k).length=k:=by rw[bx];omega
  rw[m] at a;obtain⟨S,R,rfl⟩:=jT a;by_cases hlt:k<l.length
  case neg =>
   obtain rfl:k=l.length:=by omega
   have HX:=qh (aM a f);clear a f m;go_wp2;go_ret;obtain⟨a,f⟩:=HX.o;rw[bs] at f;exact⟨⟨S,R,rfl,wL a,z,GH a,λ i X=>(f i X).imp (λ q I _=>I.1)⟩,K⟩
  obtain⟨ad,ci,rfl,ab,r,j⟩:=au.at_ (au.keep (λ _ _ h=>h.keep (K.mono T)) HL.o (K.mono T)) hlt;have sG:=qh (show l.take (k+1)=l.take k ++ [l[k]] from bp hlt);have x:=qh (HR.o _ (bA hlt));obtain⟨e,C⟩:=af (l[k]);rw[C] at r sG x;have tq:=qh r;have aX:=qh hlt;obtain⟨-,-,-,-,-,-,-⟩:=r;rename_i A3 c3 A4 c4 am;obtain⟨f0,f1,f2,f3,f4,f5,f6,f7⟩:=e8 j;obtain⟨n,N,d,B1⟩:=box wr 67 (BC e A3 c3 A4 e.ar.length c4);have y:=K.trans (d.mono hs);have KC:=qh (show Calls Tryz.prog 81 #[.agg (BC e A3 c3 A4 e.ar.length c4)] n λ en w'=>(∃ A1 c1 A2 c2,en = aD (.agg (BC e A1 c1 A2 e.ar.length c2))/\cO w' (λ b=>n.heap.size<=b) w'.heap.size e (az e A1 c1 A2 c2))/\EG n w' from x.o.1 n B _ (tq.o.keep (d.mono (aL T hs))) (aL T y.size) x.o.2);have OV:=dm a d;have HX:=qh (show ∀ w',EG n w'->∀ i (h:i<(l.take k).length),cO w' (CO w.heap.size (aw S k R)) w'.heap.size (l.take k)[i] ((z.drop (i*8)).take 8) from λ w' I i X=>((f i X).keep (dI.of (d.trans (I.mono d.size)))).up (d.trans (I.mono d.size)).size);clear j C ab a f;go_upto_region 5 with (fail);rw[<- N];clear N f0 f1 f2 f3 f4 f5 f6 f7;obtain⟨f0,f1,f2,f3,f4,f5,f6,f7⟩:=b8 B1;have U:=y.size;have D:∀ g,(Value.slice S k R).ownBlock=some g->w.heap.size<=g/\g<n.heap.size:=λ g hg=>OV.lt g hg;go_wp2_with (first
   | (go_at_call 81;(with_reducible refine KC.o.mono ?_);rintro e2 E ⟨⟨P,J,G,O,rfl,L⟩,s⟩;have Bh:=qh (dm OV s);have t:=aB E (.cells (BC e P J G e.ar.length O) 67 (0,0));have Uz:=qh L;have ac:=s.size;have Q:=s.trans (t.mono ac);clear L)
   | (at_builtin;refine wpList_append_lies _ rfl _ _ 52 rfl w.heap.size 67 j0 (.agg #[.int .i64 0,.int .i64 0,.string ⟨#[]⟩,.int .i64 0,.int .i64 0,.string ⟨#[]⟩,.slice none 0 0,.slice none 0 0]) 8 112 Tryz.underlying52 ae aa W ak rfl (by decide) _ _ _ rfl (Bh.o.alloc _) ⟨E.heap.size,0,none⟩ 1 1 [.int .i64 e.k,.int .i64 e.op,.string e.nm,.int .i64 e.v.k,.int .i64 e.v.n,.string e.v.s,.slice P e.v.l.length J,.slice G e.ar.length O] rfl rfl ?d1 ?d2 (by decide) ?d3 ?d4 ?d5 _ rfl ?_))
  case d1=>exact World.news_of_block (ag.new E 67 _)
  case d2=>intro u hu;simp only[bg,bB,or_false] at hu;rcases hu with rfl | rfl | rfl | rfl | rfl | rfl | rfl | rfl <;> rfl
  case d3=>unfold maxLen;omega
  case d4=>omega
  case d5=>simp;omega
  intro g4 V w4 p H Ky al;have M:=Bh.o.alloc (.cells (BC e P J G e.ar.length O) 67 (0,0));have F:(E.alloc (.cells (BC e P J G e.ar.length O) 67 (0,0))).heap.size=E.heap.size+1:=by simp
  have Z:=qh (show ExS w.heap.size w4 (aw (some ⟨g4,0,none⟩) (k+1) V) (l.take (k+1)) by
   rw[sG.o];refine ExS.push (cs:=z) (ds:=[ap aq e.k,ap aq e.op,av e.nm,ap aq e.v.k,ap aq e.v.n,av e.v.s,aw P e.v.l.length J,aw G e.ar.length O]) (v:=aw S k R) (by rw[m];exact M) (HX.o _ Q) (((Uz.o.keep (dI.of t)).up t.size).imp (λ q I _=>⟨by omega,λ e=>by have:=D q e;omega⟩)) rfl (by rw[m];exact p) H ?_;rcases Ky with e | e
   .exact .inl e.symm
   .exact .inr (congrArg some (e.trans F.symm)))
  have Y:=qh ((y.trans (Q.mono U)).grown H (by omega) (λ g hg=>(D g hg).1));clear M;go_wp2_with fail;go_roundw
  case rel=>exact⟨k+1,by go_num,aX.o,Z,Y⟩
  case measure =>
   have:=aX.o;simp[intOf];omega
mutual
theorem Rn:∀ e:Ex,ZQ e
 | .mk _ _ _ _ ar=>OZ (e:=.mk _ _ _ _ ar) (Aq (zi ar))
theorem zi:∀ l:List Ex,∀ e∈l,ZQ e
 | [],_,h=>by cases h
 | a :: r,e,h=>by
  rcases bg.1 h with q | q
  .rw[q];exact Rn a
  .exact zi r e q
end
theorem O0 (l:List Ex):ZR l:=Aq (zi l)
set_option maxHeartbeats 4000000
set_option maxRecDepth 100000
def jS.cu (a:jS):Nat:=Ei a.only+a.rs.length+(a.ch.map (λ r=>r.must.bl+r.ph.length+1)).sum
mutual
def ItemD.cu:ItemD->Nat
 | .mk _ _ iff ph items _ cnt _ ans cmp=>Ei iff+Ei cnt+Ei cmp+ph.length+ans.cu+1+WM items
def WM:List ItemD->Nat
 | []=>0
 | a :: r=>a.cu+WM r
end
theorem aik (x:ItemD):x.cu=Ei x.iff+Ei x.cnt+Ei x.cmp+x.ph.length+x.ans.cu+1+WM x.items:=by cases x;rw[ItemD.cu];rfl
def KU (w:World) (p:Nat->Prop) (A:Option Addr) (l:List Ex):Prop:=∃ cs,lq w p w.heap.size 8 A l.length cs/\∀ i (h:i<l.length),cO w p w.heap.size l[i] ((cs.drop (i*8)).take 8)
theorem KU.keep {w w':World} {p:Nat->Prop} {A:Option Addr} {l:List Ex} (h:KU w p A l) (a:dI p w w'):KU w' p A l:=by
 obtain⟨cs,b,d⟩:=h;exact⟨cs,(b.keep a).up a.1,λ i c=>((d i c).keep a).up a.1⟩
theorem KU.imp {w:World} {p q:Nat->Prop} {A:Option Addr} {l:List Ex} (h:KU w p A l) (a:∀ k,p k->k<w.heap.size->q k):KU w q A l:=by
 obtain⟨cs,c,m⟩:=h;refine⟨cs,⟨c.r,λ d ad e=>a _ (c.l d ad e) ?_⟩,λ i f=>(m i f).imp a⟩;obtain⟨j,b,g,-⟩:=c.r.2 d;rw[e] at b;injection b with b;rw[b];exact g
def rG (b:Nat) (w:World) (l:List Ex) (v:Value):Prop:=∃ A c,v = aw A l.length c/\KU w (λ k=>b<=k) A l
theorem rG.keep {b:Nat} {w w':World} {l:List Ex} {v:Value} (h:rG b w l v) (d:EG w w'):rG b w' l v:=by
 obtain⟨A,c,e,a⟩:=h;exact⟨A,c,e,a.keep (dI.of d)⟩
theorem rG.sets {b g:Nat} {w w':World} {l:List Ex} {v:Value} (h:rG b w l v) (d:aU g w w') (i:g<b):rG b w' l v:=by
 obtain⟨A,c,e,a⟩:=h;exact⟨A,c,e,a.keep (d.stay λ k f=>by omega)⟩
structure R1 (w cur:World) (x:ItemD) (ci:List Value) (o1 o3:Option Value):Prop where
 bel:EG w cur
 le:w.heap.size+2<=cur.heap.size
 b1:ag cur w.heap.size 59 ci.toArray
 b2:ag cur (w.heap.size+1) 59 #[ap aq 0,av ⟨#[]⟩,aw none 0 0,aw none 0 0,aw none 0 0,ay false,aw none 0 0,av ⟨#[]⟩,ap aq 0,ap aq 0,ap aq 0,ap aq 0,av ⟨#[]⟩,aw none 0 0,ay false,aw none 0 0,ay false,aw none 0 0,aw none 0 0]
 e1:∀ v,o1=some v->rG (w.heap.size+2) cur x.iff v
 e3:∀ v,o3=some v->rG (w.heap.size+2) cur x.cmp v
theorem R1.later {w cur w':World} {x:ItemD} {ci:List Value} {b o3:Option Value} (h:R1 w cur x ci b o3) (a:EG cur w'):R1 w w' x ci b o3:=
 ⟨h.bel.trans (a.mono h.bel.size),aL h.le a.size,h.b1.below a h.b1.lt,h.b2.below a h.b2.lt,λ v e=>(h.e1 v e).keep a,λ v e=>(h.e3 v e).keep a⟩
structure R2 (w cur:World) (x:ItemD) (ci:List Value):Prop where
 bel:EG w cur
 le:w.heap.size+2<=cur.heap.size
 b1:ag cur w.heap.size 59 ci.toArray
 b2:ag cur (w.heap.size+1) 59 #[ap aq 0,av ⟨#[]⟩,aw none 0 0,aw none 0 0,aw none 0 0,ay false,aw none 0 0,av ⟨#[]⟩,ap aq 0,ap aq 0,ap aq 0,ap aq 0,av ⟨#[]⟩,aw none 0 0,ay false,aw none 0 0,ay false,aw none 0 0,aw none 0 0]
 h19:ci.length=19
 h1c:∀ v∈ci,v.oneCell'=true
 e1:∃ v,ci[2]?=some v/\rG (w.heap.size+2) cur x.iff v
 e3:∃ v,ci[18]?=some v/\rG (w.heap.size+2) cur x.cmp v
theorem R1.end_ {w cur:World} {x:ItemD} {ci:List Value} {v1 b v3:Value} (h:R1 w cur x ci (some v1) (some v3)) (a:ci.length=19) (d:∀ v∈ci,v.oneCell'=true) (j:b.oneCell'=true) :
  R2 w (((cur.setCell ⟨w.heap.size,2,none⟩ v1).setCell ⟨w.heap.size,6,none⟩ b).setCell ⟨w.heap.size,18,none⟩ v3) x (((ci.set 2 v1).set 6 b).set 18 v3):=by
 have c:aU w.heap.size cur (((cur.setCell ⟨w.heap.size,2,none⟩ v1).setCell ⟨w.heap.size,6,none⟩ b).setCell ⟨w.heap.size,18,none⟩ v3):=(((aU.refl _ _).set 2 v1).set 6 b).set 18 v3;have B:=(((h.b1.dS 2 v1).dS 6 b).dS 18 v3);have e:=h.e1 v1 rfl;have e3:=h.e3 v3 rfl;obtain⟨n,l,g,-⟩:=id e;obtain⟨k,m,i,-⟩:=id e3;refine⟨h.bel.trans (c.below (aZ _)),by rw[c.size];exact h.le,by simpa using B,c.blk h.b2 (by omega),by simp[a],λ v f=>?_,⟨v1,by simp[a],e.sets c (by omega)⟩,⟨v3,by simp[a],e3.sets c (by omega)⟩⟩;rcases bh f with q | q
 .rcases bh q with q | q
  .rcases bh q with q | q
   .exact d v q
   .rw[q,g];rfl
  .rw[q];exact j
 .rw[q,i];rfl
theorem R1.call {w:World} {x:ItemD} {ci:List Value} {l:List Ex} {A:Option Addr} {c B:Nat} (o:au aQ 8 w B A l) (j:B<=w.heap.size) (b:Ei l<=1048576) {cur:World} {g o3:Option Value} (h:R1 w cur x ci g o3) :
  Calls Tryz.prog 79 #[aw A l.length c] cur λ m w'=>∃ A' c',m = aD (aw A' l.length c')/\rG (w.heap.size+2) w' l (aw A' l.length c')/\R1 w w' x ci g o3:=by
 have f:Below B w cur:=h.bel.mono j;refine (O0 l cur B A c (o.keep (λ _ _ q=>q.keep f) f) (aL j h.bel.size) b).mono λ m w' r=>?_;obtain⟨⟨A',c',p,-,cs,s,t⟩,d⟩:=r;have a:=h.le;exact⟨A',c',p,⟨A',c',rfl,cs,s.impl λ k e=>aL a e,λ i n=>(t i n).imp λ k e _=>aL a e⟩,h.later d⟩
structure R4 (w w1 cur:World) (v1 v3:Value) (ci:List Value):Prop where
 bel:EG w cur
 stay:dI (λ k=>w.heap.size+2<=k) w1 cur
 le:w.heap.size+2<=w1.heap.size
 b1:ag cur w.heap.size 59 ci.toArray
 b2:ag cur (w.heap.size+1) 59 #[ap aq 0,av ⟨#[]⟩,aw none 0 0,aw none 0 0,aw none 0 0,ay false,aw none 0 0,av ⟨#[]⟩,ap aq 0,ap aq 0,ap aq 0,ap aq 0,av ⟨#[]⟩,aw none 0 0,ay false,aw none 0 0,ay false,aw none 0 0,aw none 0 0]
 h19:ci.length=19
 h1c:∀ v∈ci,v.oneCell'=true
 e1:ci[2]?=some v1
 e3:ci[18]?=some v3
section
variable {w w1 cur w':World} {v1 v3:Value} {ci:List Value}
theorem R4.size (h:R4 w w1 cur v1 v3 ci):w.heap.size+2<=cur.heap.size:=aL h.le h.stay.1
theorem R4.move (h:R4 w w1 cur v1 v3 ci) (b:Below (w.heap.size+2) cur w') (c:dI (λ k=>w.heap.size+2<=k/\k<w1.heap.size) cur w'):R4 w w1 w' v1 v3 ci:=
 ⟨h.bel.trans (b.mono (by omega)),⟨aL h.stay.1 c.1,λ k d a=>(c.2 k ⟨d,a⟩ (Nat.lt_of_lt_of_le a h.stay.1)).trans (h.stay.2 k d a)⟩,h.le,h.b1.below b (by omega),h.b2.below b (by omega),h.h19,h.h1c,h.e1,h.e3⟩
theorem R4.later (h:R4 w w1 cur v1 v3 ci) (a:EG cur w'):R4 w w1 w' v1 v3 ci:=h.move (a.mono h.size) ⟨a.size,λ k _ b=>a.block k b⟩
theorem R4.far (h:R4 w w1 cur v1 v3 ci) {g:Nat} (a:aU g cur w') (b:w1.heap.size<=g):R4 w w1 w' v1 v3 ci:=h.move (a.below (aL h.le b)) (a.stay λ k c=>by omega)
theorem R4.grown (h:R4 w w1 cur v1 v3 ci) {a:Option Nat} (c:cur.grownBy w' a) (b:∀ g,a=some g->w1.heap.size<=g):R4 w w1 w' v1 v3 ci:=
 h.move ((Below.refl _ _).grown c h.size (λ g e=>aL h.le (b g e))) (dI.grown c λ k d e=>by have:=b k e.symm;omega)
theorem R4.set (h:R4 w w1 cur v1 v3 ci) (i:Nat) {v:Value} (g:i≠2) (b:i≠18) (c:v.oneCell'=true):R4 w w1 (cur.setCell ⟨w.heap.size,i,none⟩ v) v1 v3 (ci.set i v):=by
 have a:aU w.heap.size cur (cur.setCell ⟨w.heap.size,i,none⟩ v):=(aU.refl _ _).set i v;have B:=h.b1.dS i v;refine⟨h.bel.trans (a.below (aZ _)),⟨by rw[a.size];exact h.stay.1,λ k f d=>(a.far k (by omega)).trans (h.stay.2 k f d)⟩,h.le,by simpa using B,a.blk h.b2 (by omega),by simp[h.h19],λ u e=>?_,by rw[bE g];exact h.e1,by rw[bE b];exact h.e3⟩;rcases bh e with q | q
 .exact h.h1c u q
 .rw[q];exact c
theorem R4.cell (h:R4 w w1 cur v1 v3 ci) {i:Nat} {u:Value} (a:ci[i]?=some u):cur.cell? ⟨w.heap.size,i,none⟩=some u/\cur.frozen? ⟨w.heap.size,i,none⟩=false:=⟨by rw[h.b1.cell];simpa using a,h.b1.frozen _⟩
end
def R5 (w w1:World) (v1 v3:Value) (ci:List Value) (g:Nat) (an:List Value) (cur:World):Prop:=R4 w w1 cur v1 v3 ci/\ag cur g 57 an.toArray/\w1.heap.size<=g/\an.length=10/\∀ v∈an,v.oneCell'=true
theorem R5.later {w w1 cur w':World} {v1 v3:Value} {ci a:List Value} {g:Nat} (h:R5 w w1 v1 v3 ci g a cur) (b:EG cur w'):R5 w w1 v1 v3 ci g a w':=⟨h.1.later b,h.2.1.below b h.2.1.lt,h.2.2⟩
theorem R5.drew {w w1 cur:World} {v1 v3:Value} {ci a:List Value} {g:Nat} (h:R5 w w1 v1 v3 ci g a cur):R5 w w1 v1 v3 ci g a cur.drew:=h.later (Below.refl _ _).drew
theorem R5.set {w w1 cur:World} {v1 v3:Value} {ci b:List Value} {g:Nat} (h:R5 w w1 v1 v3 ci g b cur) (i:Nat) {v:Value} (c:v.oneCell'=true):R5 w w1 v1 v3 ci g (b.set i v) (cur.setCell ⟨g,i,none⟩ v):=by
 obtain⟨j,k,a,f,d⟩:=h;refine⟨j.far ((aU.refl _ _).set i v) a,by simpa using k.dS i v,a,by simp[f],λ u e=>?_⟩;rcases bh e with q | q
 .exact d u q
 .rw[q];exact c
theorem R5.cell {w w1 cur:World} {v1 v3:Value} {ci a:List Value} {g:Nat} (h:R5 w w1 v1 v3 ci g a cur) {i:Nat} {u:Value} (b:a[i]?=some u):cur.cell? ⟨g,i,none⟩=some u/\cur.frozen? ⟨g,i,none⟩=false:=⟨by rw[h.2.1.cell];simpa using b,h.2.1.frozen _⟩
theorem R5.grown {w w1 cur w':World} {v1 v3:Value} {ci c:List Value} {g:Nat} (h:R5 w w1 v1 v3 ci g c cur) {a:Option Nat} (d:cur.grownBy w' a) (b:∀ k,a=some k->g<k):R5 w w1 v1 v3 ci g c w':=
 ⟨h.1.grown d λ k e=>by have:=b k e;have:=h.2.2.1;omega,h.2.1.grown d λ e=>by have:=b g e.symm;omega,h.2.2⟩
def S9 (P:World->Prop) (b:Nat) (T:TypeId) (size:Nat) (v:Value) (n:Nat) (xs:List Value) (g:Nat) (ds:List Value) (cur:World):Prop:=P cur/\cur.ownsRow b T size v n xs/\ag cur g T ds.toArray
theorem S9.later {P:World->Prop} (d:∀ w w',P w->EG w w'->P w') {b size n g:Nat} {T:TypeId} {v:Value} {c ds:List Value} {cur w':World} (h:S9 P b T size v n c g ds cur) (a:EG cur w'):S9 P b T size v n c g ds w':=⟨d _ _ h.1 a,dm h.2.1 a,h.2.2.below a h.2.2.lt⟩
theorem S9.cell {P:World->Prop} {b size n g:Nat} {T:TypeId} {v:Value} {a ds:List Value} {cur:World} (h:S9 P b T size v n a g ds cur) {i:Nat} {u:Value} (c:ds[i]?=some u):cur.cell? ⟨g,i,none⟩=some u:=by rw[h.2.2.cell];simpa using c
theorem al5 {α:Type}:∀ {cs:List α},cs.length=10->∃ j i e a g c d f h b,cs = [j,i,e,a,g,c,d,f,h,b]
 | [j,i,e,a,g,c,d,f,h,b],_=>⟨j,i,e,a,g,c,d,f,h,b,rfl⟩
theorem R4.mid {w w1 cur:World} {A t:Value} {ci b:List Value} (h:R4 w w1 cur A t ci) (p:b.length=10) (a:∀ v∈b,v.oneCell'=true):∃ y,R4 w w1 (cur.setCells w.heap.size 8 b) A t y/\y[4]?=ci[4]?:=by
 have d:aU w.heap.size cur (cur.setCells w.heap.size 8 b):=aU.many b 8 (aU.refl _ _);obtain⟨q,v1,r,v3,x,z,u,s,N,H,e,j,g,i,f,l,m,n,c,rfl⟩:=aie h.h19;have B:=ag.mid (post:=[c]) b [N,H,e,j,g,i,f,l,m,n] [q,v1,r,v3,x,z,u,s] h.b1 p.symm;obtain⟨K,O,J,E,F,I,C,M,G,L,rfl⟩:=al5 p;refine⟨[q,v1,r,v3,x,z,u,s,K,O,J,E,F,I,C,M,G,L,c],⟨h.bel.trans (d.below (aZ _)),⟨by rw[d.size];exact h.stay.1,λ k P D=>(d.far k (by omega)).trans (h.stay.2 k P D)⟩,h.le,B,d.blk h.b2 (by omega),rfl,λ v o=>?_,h.e1,h.e3⟩,rfl⟩;simp only[bg,bB,or_false] at o;rcases o with rfl | rfl | rfl | rfl | rfl | rfl | rfl | rfl | rfl | rfl | rfl | rfl | rfl | rfl | rfl | rfl | rfl | rfl | rfl
 .exact h.h1c _ (by simp)
 .exact h.h1c _ (by simp)
 .exact h.h1c _ (by simp)
 .exact h.h1c _ (by simp)
 .exact h.h1c _ (by simp)
 .exact h.h1c _ (by simp)
 .exact h.h1c _ (by simp)
 .exact h.h1c _ (by simp)
 .exact a _ (by simp)
 .exact a _ (by simp)
 .exact a _ (by simp)
 .exact a _ (by simp)
 .exact a _ (by simp)
 .exact a _ (by simp)
 .exact a _ (by simp)
 .exact a _ (by simp)
 .exact a _ (by simp)
 .exact a _ (by simp)
 .exact h.h1c _ (by simp)
end Go.Proofs.YtcnagconagpkcaaGreatDoor
namespace Go.Proofs.YtcnagconagpkcaaGreatDoor
open Go.RowKit
attribute [local go_sem ↓] Go.wp_at_zero Go.wp_at_succ
attribute [local go_sem ↓] ld_item st_item ld_ans st_ans ld_rule st_rule
set_option maxHeartbeats 4000000
set_option maxRecDepth 100000
theorem R1.cells {w cur:World} {x:ItemD} {ci:List Value} {b a:Option Value} (h:R1 w cur x ci b a):cur.frozen? ⟨w.heap.size,2,none⟩=false/\cur.frozen? ⟨w.heap.size,6,none⟩=false/\cur.frozen? ⟨w.heap.size,18,none⟩=false/\cur.cell? ⟨w.heap.size,2,none⟩=ci[2]?/\cur.cell? ⟨w.heap.size,6,none⟩=ci[6]?/\cur.cell? ⟨w.heap.size,18,none⟩=ci[18]?:=
 ⟨h.b1.frozen _,h.b1.frozen _,h.b1.frozen _,by rw[h.b1.cell];simp,by rw[h.b1.cell];simp,by rw[h.b1.cell];simp⟩
theorem R1.drew {w cur:World} {x:ItemD} {ci:List Value} {a o3:Option Value} (h:R1 w cur x ci a o3):R1 w cur.drew x ci a o3:=h.later (Below.refl _ _).drew
theorem TG {a:gq}:∀ {l:List gq},a∈l->a.must.bl+a.ph.length+1<=(l.map (λ r=>r.must.bl+r.ph.length+1)).sum
 | b :: r,h=>by
  simp only[bq,br];rcases bg.1 h with e | e
  .rw[e];omega
  .have:=TG e;omega
theorem bs_item (ρ:Operand->Value) (dst:Option Tmp) (a:Operand) (ty:TypeId) (pos:String) (after:Array Edge) (guard:Option (Nat × Bool)) :
  execOp ρ { dst,op:=.buildSlice 24 1 #[(0,a)],type:=ty,pos,after,guard } = (do pure (.value (<- BSx 24 1 #[(0,ρ a)]))):=by
 show (do pure (Next.value (<- BSx 24 1 ((#[(0,a)]:Array (Nat × Operand)).map λ (i,x)=>(i,ρ x)))))=_;rw[show ((#[(0,a)]:Array (Nat × Operand)).map λ (i,x)=>(i,ρ x)) = #[(0,ρ a)] by simp]
attribute [local go_sem ↓] bs_item
end Go.Proofs.YtcnagconagpkcaaGreatDoor
namespace Go.Proofs.YtcnagconagpkcaaGreatDoor
open Go.RowKit
attribute [local go_sem ↓] Go.wp_at_zero Go.wp_at_succ
attribute [local go_sem ↓] ld_item st_item
set_option maxHeartbeats 4000000
set_option maxRecDepth 100000
theorem wW.ok {f:aG} {x:ku} {e:Ending} {w':World} (j:dh f=0) (h:wW f x e w'):∃ B0 a d b i A c,e = aD (.tuple #[ax (some ⟨a,0,none⟩),ap aq 0])/\aJ w' B0 a d b i {x with AN:=A,cn:=c} f (aC f) (o9 f).2:=by
 rcases h with ⟨g,-⟩ | ⟨-,h⟩
 .exact absurd j g
 .exact h
theorem rG.low {b:Nat} {w:World} {l:List Ex} {v:Value} (h:rG b w l v):rG 0 w l v:=by
 obtain⟨A,c,e,a⟩:=h;exact⟨A,c,e,a.imp λ k _ _=>ba _⟩
theorem rG.ge {b a:Nat} {w:World} {l:List Ex} {v:Value} (h:rG a w l v) (g:b<=a):rG b w l v:=by
 obtain⟨A,c,e,d⟩:=h;exact⟨A,c,e,d.imp λ k f _=>aL g f⟩
structure F7 (w1 cur:World) (d:ah) (g:Nat) (o1:Option (List Value)) (o2:Option Value):Prop where
 bel:EG w1 cur
 blk:ag cur g 59 #[ap aq 0,av ⟨#[]⟩,aw none 0 0,aw none 0 0,aw none 0 0,ay false,aw none 0 0,av ⟨#[]⟩,ap aq 0,ap aq 0,ap aq 0,ap aq 0,av ⟨#[]⟩,aw none 0 0,ay false,aw none 0 0,ay false,aw none 0 0,aw none 0 0]
 lt:g<w1.heap.size
 it:∀ co,o1=some co->co.length=19/\(∀ v∈co,v.oneCell'=true)/\(∃ v,co[2]?=some v/\rG w1.heap.size cur d.it.iff v)/\∃ v,co[18]?=some v/\rG w1.heap.size cur d.it.cmp v
 lo:∀ v,o2=some v->cur.ownsRow w1.heap.size 9 1 v d.lo.length (iZ d.lo)
theorem F7.later {w1 cur w':World} {d:ah} {g:Nat} {b:Option (List Value)} {o2:Option Value} (h:F7 w1 cur d g b o2) (a:EG cur w'):F7 w1 w' d g b o2:=by
 refine⟨h.bel.trans (a.mono h.bel.size),h.blk.below a h.blk.lt,h.lt,λ c e=>?_,λ v e=>dm (h.lo v e) a⟩;obtain⟨m,n,⟨v,i,l⟩,f,j,k⟩:=h.it c e;exact⟨m,n,⟨v,i,l.keep a⟩,f,j,k.keep a⟩
theorem F7.drew {w1 cur:World} {d:ah} {g:Nat} {a:Option (List Value)} {o2:Option Value} (h:F7 w1 cur d g a o2):F7 w1 cur.drew d g a o2:=h.later (Below.refl _ _).drew
theorem F7.st {w1 cur:World} {d:ah} {g:Nat} {b:Option (List Value)} {f:Option Value} (h:F7 w1 cur d g b f) {a:List Value} (e:b=some a):(Hy 59 (ax (some ⟨g,0,none⟩)) (.agg a.toArray)).run Tryz.prog cur = .ok () (cur.setCells g 0 a):=by
 obtain⟨c,i,-⟩:=h.it a e;exact TE h.blk (by rw[c];decide) (by rw[c];kernel_rfl) i
theorem F7.end_ {w1 cur:World} {d:ah} {g:Nat} {a:List Value} {v:Value} (h:F7 w1 cur d g (some a) (some v)):ag (cur.setCells g 0 a) g 59 a.toArray/\∃ c cl,v = aw c d.lo.length cl/\aU g cur (cur.setCells g 0 a)/\a.length=19/\(∀ v∈a,v.oneCell'=true)/\(∃ v,a[2]?=some v/\rG 0 (cur.setCells g 0 a) d.it.iff v)/\(∃ v,a[18]?=some v/\rG 0 (cur.setCells g 0 a) d.it.cmp v)/\dB (cur.setCells g 0 a) (cur.setCells g 0 a).heap.size c d.lo/\d.lo.length<=cl:=by
 obtain⟨i,m,⟨u1,j,l⟩,u3,e3,k⟩:=h.it a rfl;have f:=h.lo v rfl;have b:=h.lt;obtain⟨c,cl,rfl⟩:=jT f;have e:aU g cur (cur.setCells g 0 a):=aU.many a 0 (aU.refl _ _);have B:=ag.mid (post:=[]) a [ap aq 0,av ⟨#[]⟩,aw none 0 0,aw none 0 0,aw none 0 0,ay false,aw none 0 0,av ⟨#[]⟩,ap aq 0,ap aq 0,ap aq 0,ap aq 0,av ⟨#[]⟩,aw none 0 0,ay false,aw none 0 0,ay false,aw none 0 0,aw none 0 0] [] h.blk (by rw[i];rfl);rw[bn,List.append_nil] at B;exact⟨B,c,cl,rfl,e,i,m,⟨u1,j,(l.sets e b).low⟩,⟨u3,e3,(k.sets e b).low⟩,Reads.fM (e.own f b),wL f⟩
end Go.Proofs.YtcnagconagpkcaaGreatDoor
namespace Go.Proofs.YtcnagconagpkcaaGreatDoor
open Go.RowKit
attribute [local go_sem ↓] Go.wp_at_zero Go.wp_at_succ
set_option maxHeartbeats 4000000
set_option maxRecDepth 100000
def VX (w:World) (B:Nat) (l:List Ex) (cs:List Value):Prop:=∀ i (h:i<l.length),aQ w B l[i] ((cs.drop (i*8)).take 8)
theorem VX.app {w:World} {B:Nat} {l m:List Ex} {cs ds:List Value} (a:VX w B l cs) (f:cs.length=l.length*8) (c:VX w B m ds):VX w B (l ++ m) (cs ++ ds):=by
 intro i b;rw[bj] at b;by_cases hlt:i<l.length
 .rw[bt hlt,bk (by omega),bv (by rw[bw];omega)];exact a i hlt
 .have e:i*8=cs.length+(i - l.length)*8:=by omega
  rw[List.getElem_append_right (by omega),e,List.drop_append];have d:List.drop (cs.length+(i - l.length)*8) cs = []:=List.drop_eq_nil_of_le (by omega);rw[d,bn,Nat.add_sub_cancel_left];exact c _ _
theorem ZT {w:World} {B:Nat} {e:Ex} {ds:List Value} (h:aQ w B e ds):∀ v∈ds,v.oneCell'=true:=by
 obtain⟨-,-,-,-,-,-,-⟩:=h;simp[az,bK]
theorem VX.one {w:World} {B:Nat} {l:List Ex} {cs:List Value} (h:VX w B l cs) (d:cs.length=l.length*8):∀ u∈cs,u.oneCell'=true:=by
 intro u c;obtain⟨j,b,rfl⟩:=List.mem_iff_getElem.1 c;have a:j / 8<l.length:=by omega
 refine ZT (h _ a) _ ?_;rw[List.mem_iff_getElem?];refine⟨j % 8,?_⟩;rw[List.getElem?_take_of_lt (by omega),List.getElem?_drop,show j / 8*8+j % 8=j by omega,bi b]
end Go.Proofs.YtcnagconagpkcaaGreatDoor
namespace Go.Proofs.YtcnagconagpkcaaGreatDoor
open Go.RowKit
attribute [local go_sem ↓] Go.wp_at_zero Go.wp_at_succ
attribute [local go_sem ↓] ld_item st_item
set_option maxHeartbeats 4000000
set_option maxRecDepth 100000
theorem e3 {w:World} {p:Addr} {b a a2:Value} (h:∀ j u,[b,a,a2][j]?=some u->w.cell? (p.add j)=some u):w.cell? p=some b/\w.cell? ⟨p.block,p.off+1,none⟩=some a/\w.cell? ⟨p.block,p.off+2,none⟩=some a2:=⟨h 0 _ rfl,h 1 _ rfl,h 2 _ rfl⟩
theorem KU.lies {w:World} {p:Nat->Prop} {A:Option Addr} {l:List Ex} (h:KU w p A l) (c:l.length<=maxLen):au aQ 8 w w.heap.size A l:=by
 obtain⟨cs,a,d⟩:=h;exact⟨c,cs,a.r,λ i b=>(d i b).at_⟩
mutual
theorem GI:∀ e:Ex,2*e.parts<=e.bl
 | .mk _ _ _ v ar=>by rw[Ex.parts,Ex.bl];have:=Jn ar;omega
theorem Jn:∀ l:List Ex,2*aI l<=Ei l
 | []=>ba _
 | a :: r=>by rw[aI,Ei];have:=GI a;have:=Jn r;omega
end
end Go.Proofs.YtcnagconagpkcaaGreatDoor
namespace Go.Proofs.YtcnagconagpkcaaGreatDoor
open Go.Deep Go.ChangeShapes Go.WideShapes Go.ChangeAt Go.RowKit Go.Joins
theorem KY:∀ l:List ItemD,(l.map ItemD.cu).sum=WM l
 | []=>by simp[WM]
 | x :: r=>by rw[bq,br,KY r,WM]
theorem CP:∀ l:List Ex,(l.map Ex.bl).sum=Ei l
 | []=>by simp[Ei]
 | x :: r=>by rw[bq,br,CP r,Ei]
def Small (M:Nat) (N:List ah):Prop:=∀ d∈N,d.it.cu<=M
mutual
theorem ItemD.VY {M:Nat}:∀ (e:ItemD) (a:List ah) (b f g:Int) (c:List ByteArray),Small M a->e.cu<=M->Small M (e.add a b f g c)
 | .mk k nm iff ph items sh cnt over ans cmp,a,b,f,g,c,h,h1=>by
  have j:=h1;rw[ItemD.cu] at h1;rw[ItemD.add];refine uA items _ _ _ _ _ (λ d i=>?_) (by omega);rcases List.mem_append.1 i with q | q
  .exact h d q
  .rw[List.mem_singleton] at q;subst q;exact j
theorem uA {M:Nat}:∀ (l:List ItemD) (a:List ah) (b d e:Int) (c:List ByteArray),Small M a->WM l<=M->Small M (kR l a b d e c)
 | [],a,_,_,_,_,h,_=>by rw[kR];exact h
 | it :: r,a,b,d,e,c,h,h1=>by
  rw[WM] at h1;rw[kR];split
  .exact h
  .exact uA r _ _ _ _ _ (ItemD.VY it a b d e c h (by omega)) (by omega)
end
theorem Tc {N:List ah} (h:Small 1048576 N):zh N:=by
 intro d b;have a:=h d b;rw[aik] at a;have key:∀ {l:List Ex},Ei l<=1048576->∀ e∈l,e.parts<=1000000:=λ i e f=>by have:=GI e;have:=KJ f;omega
 have g:=a;unfold jS.cu at g;refine⟨key (by omega),key (by omega),key (by omega),key (by omega),λ r c=>?_⟩;have:=TG c;have:=GI r.must;omega
instance:Inhabited qg:=⟨⟨0,[],false,false⟩⟩
instance:Inhabited aW:=⟨⟨.empty,[]⟩⟩
instance:Inhabited gq:=⟨⟨default,false,[]⟩⟩
instance:Inhabited ItemD:=⟨ac2.it⟩
theorem al6 {α:Type}:∀ {cs:List α},cs.length=5->∃ e d b a c,cs = [e,d,b,a,c]
 | [e,d,b,a,c],_=>⟨e,d,b,a,c,rfl⟩
theorem adn {α:Type}:∀ {cs:List α},cs.length=10->∃ j i e a g c d f h b,cs = [j,i,e,a,g,c,d,f,h,b]
 | [j,i,e,a,g,c,d,f,h,b],_=>⟨j,i,e,a,g,c,d,f,h,b,rfl⟩
theorem ail {α:Type}:∀ {cs:List α},cs.length=19->∃ q s m g i l f r j p a c b k n h d e o,cs = [q,s,m,g,i,l,f,r,j,p,a,c,b,k,n,h,d,e,o]
 | [q,s,m,g,i,l,f,r,j,p,a,c,b,k,n,h,d,e,o],_=>⟨q,s,m,g,i,l,f,r,j,p,a,c,b,k,n,h,d,e,o,rfl⟩
section
variable {H:Type} {enc:TypeId × Value->H} {W:World}
theorem xM {a m b:Nat} {T:TypeId} {cs:List Value} {y:DataW H × List MemPlace} (h:aE enc Tryz.prog W 0 (λ _=>true) true a T (cs.take m)=some y) (e:m=b):aE enc Tryz.prog W 0 (λ _=>true) true a T (cs.take b)=some y:=e▸h
theorem KZ {T:TypeId} (t:Tryz.prog.underlying T=some (.slice 9)) {d:Nat} {cs:List Value} {x:DataW H × List MemPlace} (h:aE enc Tryz.prog W 0 (λ _=>true) true d T cs=some x) :
  ∃ (A:Option Addr) (l:List ByteArray) (c:Nat),cs = [aw A l.length c]/\nP W W.heap.size A c l/\l.length+1<=Rows.uptoBulk x.1:=by
 rcases open_strings t Tryz.underlying9 (by kernel_rfl) h with ⟨rfl,rfl⟩ | ⟨a,len,i,b,rfl,-,n,w,f,rfl,m,r⟩
 .exact⟨none,[],0,rfl,⟨⟨rfl,λ h=>absurd h (by simp)⟩,by simp,by simp,by simp⟩,by simp[Rows.uptoBulk]⟩
 .simp only[if_true] at f;have e:(b.take len).length=len:=by rw[bx];omega
  refine⟨some a,b.take len,i,by rw[e],⟨⟨by rw[zx];omega,λ o=>?_⟩,by rw[e];exact n,by rw[e];omega,λ s k=>r s (List.mem_of_mem_take k)⟩,by
   show _<=Rows.uptoBulk (DataW.slice (strs (b.take len)) (strs (b.drop len)));rw[Rows.uptoBulk];have:=zC (H:=H) (strs (b.take len));rw[show (strs (H:=H) (b.take len)).length=(b.take len).length by simp[strs]] at this;omega⟩
  rw[e] at o;have v:=m 0 (by omega);refine⟨a,rfl,by have:=block_lt_of_cell v;rwa [iW] at this,λ j u q=>?_⟩;obtain⟨p,rfl⟩:=ED q;have g:j<b.length:=by rw[e] at p;omega
  rw[m j g,List.getD_eq_getElem?_getD,bi g,List.getElem_take];rfl
theorem ZU {a:Nat} {cs:List Value} {x:DataW H × List MemPlace} (h:aE enc Tryz.prog W 0 (λ _=>true) true a 95 cs=some x) :
  ∃ f c d y3 n,a=n+1/\x.1 = .agg [f.1,c.1,d.1,y3.1]/\cs.length=4/\aE enc Tryz.prog W 0 (λ _=>true) true n 3 ((cs.drop 0).take 1)=some f/\aE enc Tryz.prog W 0 (λ _=>true) true n 53 ((cs.drop 1).take 1)=some c/\aE enc Tryz.prog W 0 (λ _=>true) true n 4 ((cs.drop 2).take 1)=some d/\aE enc Tryz.prog W 0 (λ _=>true) true n 4 ((cs.drop 3).take 1)=some y3:=by
 obtain⟨g,n,i,rfl,j,b,e⟩:=bf Tryz.underlying95 h
 match g,b with
 | [f,c,d,y3],_=>exact⟨f,c,d,y3,n,i,rfl,j.trans (by kernel_rfl),xM (e 0 _ rfl) (by kernel_rfl),xM (e 1 _ rfl) (by kernel_rfl),xM (e 2 _ rfl) (by kernel_rfl),xM (e 3 _ rfl) (by kernel_rfl)⟩
theorem ZV {a:Nat} {cs:List Value} {x:DataW H × List MemPlace} (h:aE enc Tryz.prog W 0 (λ _=>true) true a 92 cs=some x) :
  ∃ c y1 n,a=n+1/\x.1 = .agg [c.1,y1.1]/\cs.length=2/\aE enc Tryz.prog W 0 (λ _=>true) true n 9 ((cs.drop 0).take 1)=some c/\aE enc Tryz.prog W 0 (λ _=>true) true n 90 ((cs.drop 1).take 1)=some y1:=by
 obtain⟨e,n,f,rfl,g,b,d⟩:=bf Tryz.underlying92 h
 match e,b with
 | [c,y1],_=>exact⟨c,y1,n,f,rfl,g.trans (by kernel_rfl),xM (d 0 _ rfl) (by kernel_rfl),xM (d 1 _ rfl) (by kernel_rfl)⟩
theorem ZW {a:Nat} {cs:List Value} {x:DataW H × List MemPlace} (h:aE enc Tryz.prog W 0 (λ _=>true) true a 144 cs=some x) :
  ∃ d c y2 n,a=n+1/\x.1 = .agg [d.1,c.1,y2.1]/\cs.length=10/\aE enc Tryz.prog W 0 (λ _=>true) true n 67 ((cs.drop 0).take 8)=some d/\aE enc Tryz.prog W 0 (λ _=>true) true n 4 ((cs.drop 8).take 1)=some c/\aE enc Tryz.prog W 0 (λ _=>true) true n 53 ((cs.drop 9).take 1)=some y2:=by
 obtain⟨f,n,g,rfl,i,b,e⟩:=bf Tryz.underlying144 h
 match f,b with
 | [d,c,y2],_=>exact⟨d,c,y2,n,g,rfl,i.trans (by kernel_rfl),xM (e 0 _ rfl) (by kernel_rfl),xM (e 1 _ rfl) (by kernel_rfl),xM (e 2 _ rfl) (by kernel_rfl)⟩
theorem ZX {b:Nat} {cs:List Value} {x:DataW H × List MemPlace} (h:aE enc Tryz.prog W 0 (λ _=>true) true b 57 cs=some x) :
  ∃ k e g d i f m l j y9 n,b=n+1/\x.1 = .agg [k.1,e.1,g.1,d.1,i.1,f.1,m.1,l.1,j.1,y9.1]/\cs.length=10/\aE enc Tryz.prog W 0 (λ _=>true) true n 3 ((cs.drop 0).take 1)=some k/\aE enc Tryz.prog W 0 (λ _=>true) true n 3 ((cs.drop 1).take 1)=some e/\aE enc Tryz.prog W 0 (λ _=>true) true n 3 ((cs.drop 2).take 1)=some g/\aE enc Tryz.prog W 0 (λ _=>true) true n 3 ((cs.drop 3).take 1)=some d/\aE enc Tryz.prog W 0 (λ _=>true) true n 9 ((cs.drop 4).take 1)=some i/\aE enc Tryz.prog W 0 (λ _=>true) true n 52 ((cs.drop 5).take 1)=some f/\aE enc Tryz.prog W 0 (λ _=>true) true n 4 ((cs.drop 6).take 1)=some m/\aE enc Tryz.prog W 0 (λ _=>true) true n 54 ((cs.drop 7).take 1)=some l/\aE enc Tryz.prog W 0 (λ _=>true) true n 4 ((cs.drop 8).take 1)=some j/\aE enc Tryz.prog W 0 (λ _=>true) true n 55 ((cs.drop 9).take 1)=some y9:=by
 obtain⟨q,n,o,rfl,p,c,a⟩:=bf Tryz.underlying57 h
 match q,c with
 | [k,e,g,d,i,f,m,l,j,y9],_=>exact⟨k,e,g,d,i,f,m,l,j,y9,n,o,rfl,p.trans (by kernel_rfl),xM (a 0 _ rfl) (by kernel_rfl),xM (a 1 _ rfl) (by kernel_rfl),xM (a 2 _ rfl) (by kernel_rfl),xM (a 3 _ rfl) (by kernel_rfl),xM (a 4 _ rfl) (by kernel_rfl),xM (a 5 _ rfl) (by kernel_rfl),xM (a 6 _ rfl) (by kernel_rfl),xM (a 7 _ rfl) (by kernel_rfl),xM (a 8 _ rfl) (by kernel_rfl),xM (a 9 _ rfl) (by kernel_rfl)⟩
theorem ZY {b:Nat} {cs:List Value} {x:DataW H × List MemPlace} (h:aE enc Tryz.prog W 0 (λ _=>true) true b 59 cs=some x) :
  ∃ k e g d i f m l j y9 n,b=n+1/\x.1 = .agg [k.1,e.1,g.1,d.1,i.1,f.1,m.1,l.1,j.1,y9.1]/\cs.length=19/\aE enc Tryz.prog W 0 (λ _=>true) true n 3 ((cs.drop 0).take 1)=some k/\aE enc Tryz.prog W 0 (λ _=>true) true n 9 ((cs.drop 1).take 1)=some e/\aE enc Tryz.prog W 0 (λ _=>true) true n 52 ((cs.drop 2).take 1)=some g/\aE enc Tryz.prog W 0 (λ _=>true) true n 53 ((cs.drop 3).take 1)=some d/\aE enc Tryz.prog W 0 (λ _=>true) true n 24 ((cs.drop 4).take 1)=some i/\aE enc Tryz.prog W 0 (λ _=>true) true n 4 ((cs.drop 5).take 1)=some f/\aE enc Tryz.prog W 0 (λ _=>true) true n 52 ((cs.drop 6).take 1)=some m/\aE enc Tryz.prog W 0 (λ _=>true) true n 9 ((cs.drop 7).take 1)=some l/\aE enc Tryz.prog W 0 (λ _=>true) true n 57 ((cs.drop 8).take 10)=some j/\aE enc Tryz.prog W 0 (λ _=>true) true n 52 ((cs.drop 18).take 1)=some y9:=by
 obtain⟨q,n,o,rfl,p,c,a⟩:=bf Tryz.underlying59 h
 match q,c with
 | [k,e,g,d,i,f,m,l,j,y9],_=>exact⟨k,e,g,d,i,f,m,l,j,y9,n,o,rfl,p.trans (by kernel_rfl),xM (a 0 _ rfl) (by kernel_rfl),xM (a 1 _ rfl) (by kernel_rfl),xM (a 2 _ rfl) (by kernel_rfl),xM (a 3 _ rfl) (by kernel_rfl),xM (a 4 _ rfl) (by kernel_rfl),xM (a 5 _ rfl) (by kernel_rfl),xM (a 6 _ rfl) (by kernel_rfl),xM (a 7 _ rfl) (by kernel_rfl),xM (a 8 _ rfl) (by kernel_rfl),xM (a 9 _ rfl) (by kernel_rfl)⟩
theorem ZZ {a:Nat} {cs:List Value} {x:DataW H × List MemPlace} (h:aE enc Tryz.prog W 0 (λ _=>true) true a 26 cs=some x) :
  ∃ g d f e y4 n,a=n+1/\x.1 = .agg [g.1,d.1,f.1,e.1,y4.1]/\cs.length=5/\aE enc Tryz.prog W 0 (λ _=>true) true n 9 ((cs.drop 0).take 1)=some g/\aE enc Tryz.prog W 0 (λ _=>true) true n 3 ((cs.drop 1).take 1)=some d/\aE enc Tryz.prog W 0 (λ _=>true) true n 22 ((cs.drop 2).take 1)=some f/\aE enc Tryz.prog W 0 (λ _=>true) true n 23 ((cs.drop 3).take 1)=some e/\aE enc Tryz.prog W 0 (λ _=>true) true n 24 ((cs.drop 4).take 1)=some y4:=by
 obtain⟨i,n,j,rfl,k,b,c⟩:=bf Tryz.underlying26 h
 match i,b with
 | [g,d,f,e,y4],_=>exact⟨g,d,f,e,y4,n,j,rfl,k.trans (by kernel_rfl),xM (c 0 _ rfl) (by kernel_rfl),xM (c 1 _ rfl) (by kernel_rfl),xM (c 2 _ rfl) (by kernel_rfl),xM (c 3 _ rfl) (by kernel_rfl),xM (c 4 _ rfl) (by kernel_rfl)⟩
theorem acx {e:Nat} {cs:List Value} {x:DataW H × List MemPlace} (h:aE enc Tryz.prog W 0 (λ _=>true) true e 65 cs=some x) :
  ∃ (v:Val) (A:Option Addr) (c:Nat),cs = [ap aq v.k,ap aq v.n,av v.s,aw A v.l.length c]/\Reads W W.heap.size 1 A v.l.length (bF aq v.l)/\v.l.length<=maxLen/\v.s.size<=maxLen/\v.l.length+1<=Rows.uptoBulk x.1:=by
 obtain⟨E,B,D,z,n,-,q,j,o,w,y,r⟩:=abk h;obtain⟨a,b,c,d,rfl⟩:=list4 j;obtain⟨k,i⟩:=pY o;obtain⟨m,f⟩:=pY w;obtain⟨s,g,t⟩:=tV y;obtain⟨A,l,c',e3,p,-,u,C⟩:=MV r;simp only[bb,bc,bd,be,aR,and_true] at i f g e3;subst i f g e3;refine⟨⟨k,m,s,l⟩,A,c',rfl,p,u,t,?_⟩;rw[q];simp only[Rows.uptoBulk,Rows.uptoBulkAll];show l.length+1<=_;omega
theorem wX:∀ (j:Nat) (cs:List Value) (x:DataW H × List MemPlace),aE enc Tryz.prog W 0 (λ _=>true) true j 67 cs=some x->∃ e:Ex,aQ W W.heap.size e cs/\e.bl<=Rows.uptoBulk x.1:=by
 intro j
 induction j using bL with
 | _ j ih =>
  intro cs x h;obtain⟨y0,Z,y2,Y,y4,n,N,O,J,K,T,U,P,Q⟩:=abl h;obtain⟨a,b,c,d,e,f,g,i,rfl⟩:=agi J;obtain⟨k,F⟩:=pY K;obtain⟨op,C⟩:=pY T;obtain⟨s,E,R⟩:=tV U;obtain⟨v,A2,c2,e3,A,t,q,V⟩:=acx P;obtain⟨A',ar,c',D,S,X,l,-⟩:=fK (α:=Ex) (Pd:=λ w B e cs=>aQ w B e cs) (μ:=Ex.bl) Tryz.underlying52 (show Tryz.prog.cellsOf 67=8 by kernel_rfl) (by decide) (λ m o y G I=>ih m (by omega) o y I) Q;simp only[bb,bc,bd,be,aR,and_true] at F C E e3 D;obtain⟨u,z,r,p⟩:=e3;subst F C E u z r p D;obtain⟨G,o,L,M⟩:=S;refine⟨.mk k op s v ar,aQ.mk (e:=.mk k op s v ar) R q t G A L M,?_⟩;rw[ZP,O];simp only[Rows.uptoBulk,Rows.uptoBulkAll];show v.l.length+2+Ei ar<=_;rw[CP] at l;omega
theorem ae0 {a:Nat} {cs:List Value} {x:DataW H × List MemPlace} (h:aE enc Tryz.prog W 0 (λ _=>true) true a 95 cs=some x):∃ d:qg,nH W W.heap.size d cs/\0<=Rows.uptoBulk x.1:=by
 obtain⟨B,u,w,t,n,-,-,i,j,q,s,o⟩:=ZU h;obtain⟨z,C,y,v,rfl⟩:=list4 i;obtain⟨k,g⟩:=pY j;obtain⟨A,l,c,e,r,m⟩:=KZ Tryz.underlying53 q;obtain⟨b,f⟩:=xx s;obtain⟨p,e3⟩:=xx o;simp only[bb,bc,bd,be,aR,and_true] at g e f e3;subst g e f e3;exact⟨⟨k,l,b,p⟩,⟨A,c,rfl,r⟩,ba _⟩
theorem acy {a:Nat} {cs:List Value} {x:DataW H × List MemPlace} (h:aE enc Tryz.prog W 0 (λ _=>true) true a 92 cs=some x):∃ d:aW,dW W W.heap.size d cs/\0<=Rows.uptoBulk x.1:=by
 obtain⟨r,p,n,-,-,i,j,o⟩:=ZV h;obtain⟨q,t,rfl⟩:=agh i;obtain⟨s,e,k⟩:=tV j;obtain⟨A,l,c,b,m,f,-,-⟩:=fK (α:=qg) (Pd:=nH) (μ:=λ _=>0) Tryz.underlying90 (show Tryz.prog.cellsOf 95=4 by kernel_rfl) (by decide) (λ _ _ _ _ g=>ae0 g) o;simp only[bb,bc,bd,be,aR,and_true] at e b;subst e b;exact⟨⟨s,l⟩,⟨A,c,rfl,m,f,k⟩,ba _⟩
theorem acz {a:Nat} {cs:List Value} {x:DataW H × List MemPlace} (h:aE enc Tryz.prog W 0 (λ _=>true) true a 144 cs=some x):∃ d:gq,iO W W.heap.size d cs/\d.must.bl+d.ph.length+1<=Rows.uptoBulk x.1:=by
 obtain⟨E,t,y,n,-,o,j,k,p,r⟩:=ZW h;obtain⟨D,I,C,u,w,B,s,G,z,F,rfl⟩:=adn j;obtain⟨e,i,v⟩:=wX _ _ _ k;obtain⟨b,f⟩:=xx p;obtain⟨A,l,c,g,q,m⟩:=KZ Tryz.underlying53 r;simp only[bb,bc,bd,be,aR,and_true] at f g i;subst f g;refine⟨⟨e,b,l⟩,⟨_,A,c,rfl,i,q⟩,?_⟩;rw[o];simp only[Rows.uptoBulk,Rows.uptoBulkAll];show e.bl+l.length+1<=_;omega
theorem ae1 {c:Nat} {cs:List Value} {x:DataW H × List MemPlace} (h:aE enc Tryz.prog W 0 (λ _=>true) true c 57 cs=some x):∃ (a:jS) (B:Option Addr) (f:Nat) (i:Option Addr) (o:Nat) (v:Option Addr) (l:Nat),cs=Nj a B f i o v l/\nI W W.heap.size a B f i o v l/\a.cu<=Rows.uptoBulk x.1:=by
 obtain⟨y0,y1,y2,y3,y4,y5,y6,y7,y8,y9,n,-,Y,hl,N,h1,h2,F,G,E,L,M,h8,h9⟩:=ZX h;obtain⟨a0,a1,a2,a3,a4,a5,a6,a7,a8,a9,rfl⟩:=adn hl;obtain⟨k,z⟩:=pY N;obtain⟨lo,p⟩:=pY h1;obtain⟨S,j⟩:=pY h2;obtain⟨Q,e3⟩:=pY F;obtain⟨s,t,I⟩:=tV G;obtain⟨A5,C,R,q,L5,O,D,-⟩:=fK (α:=Ex) (Pd:=aQ) (μ:=Ex.bl) Tryz.underlying52 (show Tryz.prog.cellsOf 67=8 by kernel_rfl) (by decide) (λ m e y _ d=>wX m e y d) E;rw[CP] at D;obtain⟨b,u⟩:=xx L;obtain⟨U,rs,K,A,P,J,m7,b7⟩:=MV M;obtain⟨b',e8⟩:=xx h8;obtain⟨T,g,V,w,Z,X,s9,-⟩:=fK (α:=gq) (Pd:=iO) (μ:=λ r=>r.must.bl+r.ph.length+1) Tryz.underlying55 (show Tryz.prog.cellsOf 144=10 by kernel_rfl) (by decide) (λ _ _ _ _ d=>acz d) h9;simp only[bb,bc,bd,be,aR,and_true] at z p j e3 t q u A e8 w;subst z p j e3 t q u A e8 w;refine⟨⟨k,lo,S,Q,s,C,b,rs,b',g⟩,A5,R,U,K,T,V,rfl,⟨L5,P,Z,O,J,X,m7,I⟩,?_⟩;rw[Y];simp only[Rows.uptoBulk,Rows.uptoBulkAll];show Ei C+rs.length+(g.map (λ r=>r.must.bl+r.ph.length+1)).sum<=_;omega
theorem acA:∀ (c:Nat) (cs:List Value) (x:DataW H × List MemPlace),aE enc Tryz.prog W 0 (λ _=>true) true c 59 cs=some x->∃ d:ItemD,bW W W.heap.size d cs/\d.cu<=Rows.uptoBulk x.1:=by
 intro c
 induction c using bL with
 | _ c ih =>
 intro cs x h;obtain⟨y0,y1,y2,y3,y4,y5,y6,y7,y8,y9,n,aa,hx,hl,N,h1,h2,D,E,A,I,L,h8,h9⟩:=ZY h;obtain⟨a0,a1,a2,a3,a4,a5,a6,a7,a8,a9,P,ab,R,WN,WO,WQ,K,ad,PK,rfl⟩:=ail hl;obtain⟨k,u⟩:=pY N;obtain⟨nm,l,g⟩:=tV h1;obtain⟨A2,iff,c2,j,L2,k2,F,-⟩:=fK (α:=Ex) (Pd:=aQ) (μ:=Ex.bl) Tryz.underlying52 (show Tryz.prog.cellsOf 67=8 by kernel_rfl) (by decide) (λ m a y _ e=>wX m a y e) h2;rw[CP] at F;obtain⟨A3,ph,c3,e3,T,O⟩:=KZ Tryz.underlying53 D;obtain⟨A4,f,c4,p,z,X,s4,-⟩:=fK (α:=ItemD) (Pd:=bW) (μ:=ItemD.cu) Tryz.underlying24 (show Tryz.prog.cellsOf 59=19 by kernel_rfl) (by decide) (λ m a y hm e=>ih m (by omega) a y e) E;rw[KY] at s4;obtain⟨b,o⟩:=xx A;obtain⟨A6,cnt,c6,r,L6,k6,s6,-⟩:=fK (α:=Ex) (Pd:=aQ) (μ:=Ex.bl) Tryz.underlying52 (show Tryz.prog.cellsOf 67=8 by kernel_rfl) (by decide) (λ m a y _ e=>wX m a y e) I;rw[CP] at s6;obtain⟨t,v,i⟩:=tV L;obtain⟨q,B1,b1,B2,b2,B3,b3,e8,hA,ae⟩:=ae1 h8;obtain⟨A9,cmp,c9,s,L9,Z,M,-⟩:=fK (α:=Ex) (Pd:=aQ) (μ:=Ex.bl) Tryz.underlying52 (show Tryz.prog.cellsOf 67=8 by kernel_rfl) (by decide) (λ m a y _ e=>wX m a y e) h9;rw[CP] at M;simp only[bb,bc,bd,be,aR,and_true] at u l j e3 p o r v e8 s;unfold Nj at e8;simp only[aR,and_true] at e8;obtain⟨f0,J,C,f3,f4,U,V,Y,B,Q⟩:=e8;subst u l j e3 p o r v s f0 J C f3 f4 U V Y B Q;obtain⟨S,ac,w,G⟩:=z;refine⟨.mk k nm iff ph f b cnt t q cmp,bW.mk (x:=.mk k nm iff ph f b cnt t q cmp) L2 T L6 L9 hA k2 X k6 Z g i S w G,?_⟩;rw[hx];simp only[Rows.uptoBulk,Rows.uptoBulkAll];rw[ItemD.cu];omega
theorem SY {b:Nat} {cs:List Value} {x:DataW H × List MemPlace} (h:aE enc Tryz.prog W 0 (λ _=>true) true b 26 cs=some x) :
  ∃ (f:aG) (e i g:Option Addr) (d a ci:Nat),cs = [av f.nm,ap aq f.ig,aw e f.aA.length d,aw i f.lists.length a,aw g f.items.length ci]/\f.nm.size<=maxLen/\nP W W.heap.size e d f.aA/\au dW 2 W W.heap.size i f.lists/\f.lists.length<=a/\zJ W W.heap.size g f.items/\f.items.length<=ci/\WM f.items<=Rows.uptoBulk x.1:=by
 obtain⟨R,K,N,J,O,n,-,B,s,t,F,I,C,D⟩:=ZZ h;obtain⟨Q,S,P,L,M,rfl⟩:=al6 s;obtain⟨nm,q,k⟩:=tV t;obtain⟨v,l⟩:=pY F;obtain⟨e,z,d,p,G,-⟩:=KZ Tryz.underlying22 I;obtain⟨i,A,a,e3,r,E,-,-⟩:=fK (α:=aW) (Pd:=dW) (μ:=λ _=>0) Tryz.underlying23 (show Tryz.prog.cellsOf 92=2 by kernel_rfl) (by decide) (λ _ _ _ _ j=>acy j) C;obtain⟨g,c,ci,o,w,u,s4,-⟩:=fK (α:=ItemD) (Pd:=bW) (μ:=ItemD.cu) Tryz.underlying24 (show Tryz.prog.cellsOf 59=19 by kernel_rfl) (by decide) (λ m a y _ j=>acA m a y j) D;rw[KY] at s4;simp only[bb,bc,bd,be,aR,and_true] at q l p e3 o;subst q l p e3 o;refine⟨⟨nm,v,z,A,c⟩,e,i,g,d,a,ci,rfl,k,G,r,E,w,u,?_⟩;rw[B];simp only[Rows.uptoBulk,Rows.uptoBulkAll];show WM c<=_;omega
end
end Go.Proofs.YtcnagconagpkcaaGreatDoor
namespace Go.Proofs.YtcnagconagpkcaaGreatDoor
open Go.RowKit
theorem acB {a b:List Int} {k:Nat} (c:k<a.length) (d:k<b.length) (h:a[k]≠b[k]):decide (a=b)=false:=by
 rw[decide_eq_false_iff_not];rintro rfl;exact h rfl
theorem acC {a b:List Int} {k:Nat} (d:k<a.length) (e:k<b.length) (h:a[k]=b[k]) (c:a.take k=b.take k):a.take (k+1)=b.take (k+1):=by
 rw[bp d,bp e,h,c]
theorem Z4 {a b:List Int} {k:Nat} (d:a.length<=k) (e:b.length=a.length) (c:a.take k=b.take k):decide (a=b)=true:=by
 rw[bo d,bo (by omega)] at c;simpa using c
theorem uP (A B:Option Addr) (n c m d B1 B2:Nat) (a f:List Int) (w:World) (G:n<=maxLen) (L:m<=maxLen)
  (j:Reads w B1 1 A n (bF aq a)) (o:Reads w B2 1 B m (bF aq f)) (q:B1<=w.heap.size) (l:B2<=w.heap.size) :
  CS 138 #[aw A n c,aw B m d] w (ay (decide (a=f))):=by
 have s:=j.more q;have x:=o.more l;clear j o q l;have r:n=a.length:=by have:=s.1;rw[mX] at this;omega
 have t:m=f.length:=by have:=x.1;rw[mX] at this;omega
 subst r t;unfold maxLen at G L;by_cases hl:a.length=f.length
 .have p:((a.length:Int) != (f.length:Int))=false:=by simp[hl]
  have M:a.length<=f.length:=by omega
  have J:f.length<=a.length:=by omega
  clear hl;go_enter Tryz.func138,Tryz.ntmps138;go_wp2;go_loopw [13,5] (λ i _ wr=>∃ k:Nat,k<=a.length/\i = ap aq k/\EG w wr/\a.take k=f.take k) (λ i _ _=>a.length - (intOf i).toNat)
  case atStart=>exact⟨0,ba _,rfl,Below.refl _ _,rfl⟩
  case round =>
   obtain⟨k,K,rfl,h,D⟩:=hrel;have F:=qh D;clear D p;by_cases h1:k<a.length
   .have y:k<f.length:=by omega
    obtain⟨O,u,rfl,_,E,I⟩:=(s.below h).at_ h1;obtain⟨N,v,rfl,_,C,H⟩:=(x.below h).at_ y;obtain⟨_,rfl⟩:=kD _ _ _ _ E;obtain⟨_,rfl⟩:=kD _ _ _ _ C;clear E C s x;by_cases hz:a[k]=f[k]
    .have g:=qh (acC h1 y hz F.o);have b:(a[k] != f[k])=false:=by simp[hz]
     have z:=qh b;clear hz b;go_wp2;have b:=z.o;go_quiet (fail);go_wp2;go_roundw
     case rel=>exact⟨k+1,by omega,by go_num,h.drewN _,g.o⟩
     case measure=>simp[intOf];omega
    .have g:=qh (acB h1 y hz);have b:(a[k] != f[k])=true:=by simp[hz]
     have z:=qh b;clear hz b;go_wp2;have b:=z.o;go_quiet (fail);go_wp2;go_ret;exact⟨aj (by rw[g.o]),h.drewN _⟩
   .have g:=qh (Z4 (by omega) (by omega) F.o);go_wp2;go_ret;exact⟨aj (by rw[g.o]),h⟩
 .have p:((a.length:Int) != (f.length:Int))=true:=by simp;omega
  have g:=qh (show decide (a=f)=false by rw[decide_eq_false_iff_not];rintro rfl;exact hl rfl);clear hl;go_enter Tryz.func138,Tryz.ntmps138;go_wp2;go_ret;exact⟨aj (by rw[g.o]),Below.refl _ _⟩
end Go.Proofs.YtcnagconagpkcaaGreatDoor
namespace Go.Proofs.YtcnagconagpkcaaGreatDoor
open Go.RowKit
attribute [local go_sem ↓] Go.wp_at_zero Go.wp_at_succ
attribute [local go_sem ↓] ld_item st_item ld_node st_node ld_ans st_ans ld_part st_part ld_rule st_rule ld_form st_form
set_option maxHeartbeats 4000000
set_option maxRecDepth 100000
theorem Ro (w:World) (c d:TypeId) (a b:Array Value):∃ W,W=(w.alloc (.cells a c (0,0))).alloc (.cells b d (0,0))/\EG w W/\ag W w.heap.size c a/\ag W (w.heap.size+1) d b/\W.heap.size=w.heap.size+2:=
 ⟨_,rfl,((Below.refl _ w).alloc (aZ _) _).alloc (by simp) _,(ag.new w c a).alloc _,by have:=ag.new (w.alloc (.cells a c (0,0))) d b;rwa [World.size_alloc] at this,by simp⟩
open Classical in
noncomputable def bI {α:Type} (x y:α):Bool:=decide (x=y)
theorem dD {α:Type} {x y:α}:bI x y=true ↔ x=y:=by unfold bI;simp
theorem sZ {α:Type} (x:α):bI x x=true:=dD.2 rfl
theorem dE {α:Type} {x y:α} {b:Bool} (h:x=y ↔ b=true):bI x y=b:=by rw[Bool.eq_iff_iff,dD];exact h
theorem lu (a b:ByteArray):(a.toList == b.toList)=bI a b:=by
 by_cases h:a=b
 .rw[kz h,h,sZ]
 .rw[dR h];exact (dE (by simp[h])).symm
theorem dQ {α:Type} [BEq α] [LawfulBEq α] (a b:α):(a == b)=bI a b:=(dE (by simp)).symm
theorem acD (x y:Val):bI x y=(bI x.k y.k && bI x.n y.n && bI x.s y.s && decide (x.l=y.l)):=by
 cases x;cases y;refine dE ?_;simp only[Val.mk.injEq,Bool.and_eq_true,dD,decide_eq_true_eq,and_assoc]
theorem O1 (x y:Val) (A B:Option Addr) (c d l k:Nat) (w:World) (u:x.l.length<=maxLen) (L:y.l.length<=maxLen)
  (F:Reads w l 1 A x.l.length (bF aq x.l)) (K:Reads w k 1 B y.l.length (bF aq y.l)) (h:l<=w.heap.size) (i:k<=w.heap.size) :
  CS 224 #[.agg (BK x A c),.agg (BK y B d)] w (ay (bI x y)):=by
 obtain⟨W,t,a,j,f,M⟩:=Ro w 65 65 (BK x A c) (BK y B d);have p:=qh (show ∀ cur,EG W cur->cur.cell? ⟨w.heap.size,0,none⟩=some (ap aq x.k)/\cur.cell? ⟨w.heap.size,1,none⟩=some (ap aq x.n)/\cur.cell? ⟨w.heap.size,2,none⟩=some (av x.s)/\cur.cell? ⟨w.heap.size,3,none⟩=some (aw A x.l.length c)/\cur.cell? ⟨w.heap.size+1,0,none⟩=some (ap aq y.k)/\cur.cell? ⟨w.heap.size+1,1,none⟩=some (ap aq y.n)/\cur.cell? ⟨w.heap.size+1,2,none⟩=some (av y.s)/\cur.cell? ⟨w.heap.size+1,3,none⟩=some (aw B y.l.length d) from λ cur g=>by
  have j:=j.below g j.lt;have f:=f.below g f.lt;exact⟨j.cell 0,j.cell 1,j.cell 2,j.cell 3,f.cell 0,f.cell 1,f.cell 2,f.cell 3⟩)
 have b:=qh (Below.refl W.heap.size W);have o:=qh a;obtain⟨J,N,H,C,v,b1,b2,b3⟩:=p.o _ b.o;obtain⟨m,I⟩:=af ((x.k == y.k));obtain⟨n,z⟩:=af ((x.n == y.n));obtain⟨s,E⟩:=af ((x.s.toList == y.s.toList));obtain⟨q,e3⟩:=af (decide (x.l=y.l));have D:=qh (show ∀ cur,EG W cur->Calls Tryz.prog 138 #[aw A x.l.length c,aw B y.l.length d] cur λ O w'=>O = aD (ay q)/\EG cur w' from λ cur g=>e3▸uP _ _ _ _ _ _ l k _ _ _ u L (F.below (a.mono h |>.trans (g.mono (aL h a.size)))) (K.below (a.mono i |>.trans (g.mono (aL i a.size)))) (aL h (aL a.size g.size)) (aL i (aL a.size g.size)));have G:=qh (show bI x y=(m && n && s && q) from by rw[acD,<- dQ,<- dQ,<- lu,I,z,E,e3]);clear e3;go_enter Tryz.func224,Tryz.ntmps224;go_upto_region 1 with (fail);rw[<- t];clear t;cases m;rotate_left;cases n;rotate_left;cases s;rotate_left
 all_goals
  go_wp2_with (first | (go_at_call 138;(with_reducible refine (D.o _ b.o).mono ?_);rintro _ P ⟨rfl,r⟩;have b:=qh (b.o.trans (r.mono b.o.size));obtain⟨J,N,H,C,v,b1,b2,b3⟩:=p.o _ b.o;clear r));go_ret;exact⟨aj (by rw[G.o];first | rfl | simp),o.o.trans (b.o.mono o.o.size)⟩
theorem ld_ex (ρ:Operand->Value) (dst:Option Tmp) (x:Operand) (ty:TypeId) (pos:String) (after:Array Edge) (guard:Option (Nat × Bool)) :
  execOp ρ { dst,op:=.load 67 x,type:=ty,pos,after,guard } = (do pure (.value (<- qG 67 (ρ x)))):=rfl
theorem st_ex (ρ:Operand->Value) (dst:Option Tmp) (x y:Operand) (ty:TypeId) (pos:String) (after:Array Edge) (guard:Option (Nat × Bool)) :
  execOp ρ { dst,op:=.store 67 x y,type:=ty,pos,after,guard } = (do Hy 67 (ρ x) (ρ y);pure .skip):=rfl
theorem ld_opt (ρ:Operand->Value) (dst:Option Tmp) (x:Operand) (ty:TypeId) (pos:String) (after:Array Edge) (guard:Option (Nat × Bool)) :
  execOp ρ { dst,op:=.load 95 x,type:=ty,pos,after,guard } = (do pure (.value (<- qG 95 (ρ x)))):=rfl
theorem st_opt (ρ:Operand->Value) (dst:Option Tmp) (x y:Operand) (ty:TypeId) (pos:String) (after:Array Edge) (guard:Option (Nat × Bool)) :
  execOp ρ { dst,op:=.store 95 x y,type:=ty,pos,after,guard } = (do Hy 95 (ρ x) (ρ y);pure .skip):=rfl
theorem CQ {w:World} {g:Nat} {T:TypeId} {cs:List Value} (h:ag w g T cs.toArray):∀ j u,cs[j]?=some u->w.cell? ((⟨g,0,none⟩:Addr).add j)=some u:=λ j u a=>by
 have e:(⟨g,0,none⟩:Addr).add j=⟨g,j,none⟩:=by unfold Addr.add;split <;> simp_all
 rw[e,h.cell j];simpa using a
def nJ {α:Type} (E:α->α->Bool):List α->List α->Bool
 | [],[]=>true
 | a :: l,b :: m=>E a b && nJ E l m
 | _,_=>false
theorem pM {α:Type} {E:α->α->Bool}:∀ {l m:List α},l.length≠m.length->nJ E l m=false
 | [],[],h=>absurd rfl h
 | [],_ :: _,_=>rfl
 | _ :: _,[],_=>rfl
 | a :: l,b :: m,h=>by rw[nJ,pM (λ e=>h (congrArg (· + 1) e)),Bool.and_false]
theorem oL {α:Type} {E:α->α->Bool} {l m:List α} {k:Nat} (h:k<l.length) (a:k<m.length):nJ E (l.drop k) (m.drop k)=(E l[k] m[k] && nJ E (l.drop (k+1)) (m.drop (k+1))):=by
 rw[bN h,bN a,nJ]
theorem Lc {α:Type} {E:α->α->Bool}:∀ {l m:List α},(∀ a∈l,∀ b,E a b=true ↔ a=b)->(nJ E l m=true ↔ l=m)
 | [],[],_=>by simp[nJ]
 | [],_ :: _,_=>by simp[nJ]
 | _ :: _,[],_=>by simp[nJ]
 | a :: l,b :: m,h=>by rw[nJ,Bool.and_eq_true,h a (by simp),Lc (λ x c=>h x (List.mem_cons_of_mem _ c)),aR]
theorem CU {α:Type} (l m:List α):nJ bI l m=bI l m:=(dE (Lc (λ _ _ _=>dD)).symm).symm
attribute [local go_sem ↓] ld_ex st_ex ld_opt st_opt
theorem wY {w:World} {B:Nat} {e:Ex} {cs:List Value} (h:aQ w B e cs):cs.length=8/\∀ v∈cs,v.oneCell'=true:=by
 cases h;exact⟨rfl,by simp[az,bK]⟩
theorem VZ {l g:List Ex} {A A':Option Addr} {c c' Q R:Nat} {w:World} (h:au aQ 8 w Q A l) (T:au aQ 8 w R A' g) (q:Q<=w.heap.size) (r:R<=w.heap.size)
  (ih:∀ x∈l,∀ y cs ds w',aQ w' Q x cs->aQ w' R y ds->Q<=w'.heap.size->R<=w'.heap.size->CS 190 #[.agg cs.toArray,.agg ds.toArray] w' (ay (bI x y))) :
  CS 189 #[aw A l.length c,aw A' g.length c',.func (.func 190) #[] #[]] w (ay (nJ (bI) l g)):=by
 have J:=qh h;have N:=qh T;have HI:=qh ih;have hl:=h.1;have S:=T.1;unfold maxLen at hl S;clear h T ih;by_cases hll:l.length=g.length
 case neg =>
  have hn:((l.length:Int) != (g.length:Int))=true:=bne_iff_ne.2 (by omega);have HF:=qh (pM (E:=bI) hll);go_enter Tryz.func189,Tryz.ntmps189;go_wp2;go_ret;exact⟨aj HF.o.symm,Below.refl _ _⟩
 have hn:((l.length:Int) != (g.length:Int))=false:=by simp[hll]
 have vF:=qh hll;have aa:l.length<=g.length:=by omega
 clear hll;go_enter Tryz.func189,Tryz.ntmps189;go_wp2_with fail;go_loopw [17,7,8,9] (λ i _ _ _ wz=>∃ k:Nat,k<=l.length/\i = ap aq k/\Hid (EG w wz)/\Hid (nJ (bI) l g=nJ (bI) (l.drop k) (g.drop k))) (λ i _ _ _ _=>l.length - (intOf i).toNat)
 case atStart=>exact⟨0,ba _,rfl,qh (Below.refl _ _),qh rfl⟩
 case round =>
  obtain⟨k,hk,rfl,a,C⟩:=hrel;by_cases hlt:k<l.length
  .have B:k<g.length:=by omega
   have K:=a.o.size;obtain⟨ad,ci,rfl,-,v,m⟩:=au.at_ (J.o.keep (λ _ _ h=>h.keep (a.o.mono q)) (a.o.mono q)) hlt;obtain⟨qQ,D,rfl,-,P,d⟩:=au.at_ (N.o.keep (λ _ _ h=>h.keep (a.o.mono r)) (a.o.mono r)) B;have C:=qh (C.o.trans (oL hlt B));have H:=bA hlt;obtain⟨x,hx⟩:=af (l[k]);obtain⟨y,hy⟩:=af (g[k]);rw[hx] at v C H;rw[hy] at P C;obtain⟨o,I⟩:=wY v;obtain⟨p,M⟩:=wY P;obtain⟨W1,n⟩:=aH (wr.alloc (.cells ci.toArray 67 (0,0)));obtain⟨W2,s⟩:=aH (W1.alloc (.cells D.toArray 67 (0,0)));have z:EG wr W1:=n▸aB wr _;have G:EG W1 W2:=s▸aB W1 _;have W:W1.heap.size=wr.heap.size+1:=by rw[n];simp
   have X:=(n▸ag.new wr 67 ci.toArray:ag W1 wr.heap.size 67 ci.toArray);have BB:=(s▸ag.new W1 67 D.toArray:ag W2 W1.heap.size 67 D.toArray);have F:(Tryz.prog.info? 67).map (·.size)=some 8:=by kernel_rfl
   have l1:=gu (w:=wr) (t:=67) Tryz.underlying67 rfl (by rw[o];exact F) m;have s1:=lI (w:=wr) (t:=67) (c:=#[.int .i64 0,.int .i64 0,.string ⟨#[]⟩,.int .i64 0,.int .i64 0,.string ⟨#[]⟩,.slice none 0 0,.slice none 0 0]) (c':=ci.toArray) (by rw[show ci.toArray.size=8 from o];exact F) (show 8=ci.toArray.size from o.symm) (by rw[<- Array.all_toList];exact bO.2 I);have l2:=gu (w:=W1) (t:=67) Tryz.underlying67 rfl (by rw[p];exact F) (λ j u hu=>Below.cell_of z (d j u hu));have Z:=lI (w:=W1) (t:=67) (c:=#[.int .i64 0,.int .i64 0,.string ⟨#[]⟩,.int .i64 0,.int .i64 0,.string ⟨#[]⟩,.slice none 0 0,.slice none 0 0]) (c':=D.toArray) (by rw[show D.toArray.size=8 from p];exact F) (show 8=D.toArray.size from p.symm) (by rw[<- Array.all_toList];exact bO.2 M);have l3:=gu (w:=W2) (t:=67) Tryz.underlying67 rfl (by rw[o];exact F) (CQ (X.below G X.lt));have l4:=gu (w:=W2) (t:=67) Tryz.underlying67 rfl (by rw[p];exact F) (CQ BB);have f:EG wr W2:=z.trans (G.mono z.size);rw[W] at Z l4;obtain⟨b,V⟩:=af ((bI) x y);have HC:=qh (V▸HI.o x H y ci D W2 (v.keep (f.mono (aL q K))) (P.keep (f.mono (aL r K))) (aL q (aL K f.size)) (aL r (aL K f.size)));rw[V] at C;have dH:=qh (a.o.trans (f.mono K));clear hx hy m d v P o I p M X BB z G F f V H J N HI;go_upto_region 6 with (fail);rw[<- n];clear n l1 s1;go_upto_region 7 with (fail);rw[<- s];clear s l2 Z;cases b
   all_goals
    go_wp2_with (go_at_call 190;(with_reducible refine HC.o.mono ?_);rintro _ w3 ⟨rfl,O⟩;have L:=qh (dH.o.trans (O.mono dH.o.size));clear O)
   .go_ret;exact⟨aj (by rw[C.o];rfl),L.o⟩
   .have aX:=qh hlt;go_roundw
    case rel=>exact⟨k+1,aX.o,by go_num,L,qh (C.o.trans (Bool.true_and _))⟩
    case measure =>
     have:=aX.o;simp[intOf];omega
  .have e:k=l.length:=by omega
   subst e;have HT:=qh (show nJ (bI) l g=true by rw[C.o,bm,vF.o,bm];rfl);go_wp2_with fail;go_ret;exact⟨aj HT.o.symm,a.o⟩
end Go.Proofs.YtcnagconagpkcaaGreatDoor
