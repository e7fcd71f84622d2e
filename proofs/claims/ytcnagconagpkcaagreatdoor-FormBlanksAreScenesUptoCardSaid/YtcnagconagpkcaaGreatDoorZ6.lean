/- Lemmas. -/
import Derived.Test.YtcnagconagpkcaaGreatDoorZ5
import Derived.Lib.ItoaLen
import Derived.Lib.AppendIntMem
set_option maxHeartbeats 2000000
set_option maxRecDepth 100000
open Go.Value renaming int->bk, string->bm, slice->bn, pointer->bo
open Go.IntKind renaming i64->bl
open Nat renaming le_trans->bp, le_refl->bs, zero_le->bA
open And renaming intro->bq
open Go.Lib renaming byteCells->br, compareBytes->bt, IsBuilder->bv, itoa->bx, cell_of_heap->bD, BuilderAt->bS, byteCells_length->bX, itoa_length_le->b2
open List renaming drop_eq_getElem_cons->bw, getElem_mem->bE, mem_singleton->bK, mem_iff_getElem->bL, nil_append->bN, any_eq_true->bO, drop_eq_nil_of_le->bQ, getElem?_eq_getElem->bR, getElem?_map->b0, take_succ_eq_append_getElem->b1, length_append->b3, length_reverse->b4, reverse_append->b5, mem_of_find?_eq_some->b6, find?_some->b7
open UInt8 renaming lt_iff_toNat_lt->bB
namespace Go.Proofs.YtcnagconagpkcaaGreatDoor
open Go.RowKit
attribute [local go_sem ↓] Go.wp_at_zero Go.wp_at_succ
theorem XF {w:World} {B B':Nat} {A:Option Addr} {l:List aG} (h:bU w B A l) (a:B<=B'):bU w B' A l:=by
 obtain⟨e,cs,d,b⟩:=h;exact⟨e,cs,d.more a,λ i c=>(b i c).up a⟩
theorem XG {w:World} {B B':Nat} {A:Option Addr} {l:List aQ} (h:dX w B A l) (a:B<=B'):dX w B' A l:=by
 obtain⟨e,cs,d,b⟩:=h;exact⟨e,cs,d.more a,λ i c=>(b i c).up a⟩
theorem NS {α:Type} (f:α->Bool):∀ (l:List α) (k:Nat),(l.find? f=none/\idxFrom f l k = -1)\/∃ i,∃ h:i<l.length,l.find? f=some l[i]/\idxFrom f l k=((k+i:Nat):Int)
 | [],_=>.inl ⟨rfl,rfl⟩
 | a :: r,k=>by
  rw[List.find?_cons,idxFrom];cases hf:f a
  .rw[if_neg (by simp)];rcases NS f r (k+1) with h | ⟨i,h,b,c⟩
   .exact .inl h
   .exact .inr ⟨i+1,by simp;omega,by simpa using b,by rw[c];congr 1;omega⟩
  .rw[if_pos rfl];exact .inr ⟨0,by simp,rfl,rfl⟩
theorem QA (e:Ex) (b:List aG) (loops:List aQ) (K:e.k=5) (E R:Option Addr) (L F B:Nat) (at_:List ByteArray) (A:Option Addr) (c:Nat) (cs:List Value) (w:World) (hP:uh e) (hI:∀ a∈e.ar,Kz b loops a) (Cj:∀ d∈loops,d.loops.length<=1048576) (hx:aZ w B e cs) (hC:bU w B E b) (hN:dX w B R loops) (ha:at_.length<=maxLen) (aq:bV w B A at_) (hc:at_.length<=c) (hB:B<=w.heap.size) :
  IE 88 #[.agg #[bn E b.length L,bn R loops.length F],.agg cs.toArray,bn A at_.length c] w (.tuple #[bk bl (e.kind b loops at_).1,bk bl (e.kind b loops at_).2]):=by
 obtain⟨hn,hs,hl,Qh,hx,hr,hi⟩:=hx;rename_i A1 c1 A2 M cs;have HK:=qh (show e.kind b loops at_=(match vK loops e.nm at_ with
   | none=>(0,5)
   | some at'=>qV b loops e.ar at' e.op) by rw[jX,if_neg (by omega),if_neg (by omega),if_neg (by omega),if_pos K];rfl)
 have MW:=qh (bq hC hN);have m:=qh (bq ha (bq aq (bq hc hB)));have a7:=qh (NS (λ n:aQ=>decide (n.nm=e.nm)) loops 0);have HP:=qh (bq (hP.op5 K) (hP.a5 K));have HR:=qh (bq hr hi);have HI:=qh hI;have MV:=qh Cj;obtain⟨i0,ao,ax,aE,ap⟩:=info_parts xU;clear hx hr hi hC hN aq hB K hI hP Cj;show Calls Tryz.prog 88 #[.agg #[bn E b.length L,bn R loops.length F],.agg (BC e A1 c1 A2 e.ar.length M),bn A at_.length c] w _;go_enter Tryz.func88,Tryz.ntmps88;go_upto_region 1 with (fail);obtain⟨W,hW⟩:=aC (((w.alloc (.cells #[bn E b.length L,bn R loops.length F] 121 (0,0))).alloc (.cells (BC e A1 c1 A2 e.ar.length M) 67 (0,0))));have p:IY w W:=by rw[hW];exact (((Below.refl _ w).alloc (bs _) _).alloc (by simp) _)
 have B0:ah W (w.heap.size) 121 #[bn E b.length L,bn R loops.length F]:=by
  rw[hW];have:=ah.new w 121 #[bn E b.length L,bn R loops.length F];have:=this.alloc (.cells (BC e A1 c1 A2 e.ar.length M) 67 (0,0));exact this
 have B1:ah W (w.heap.size+1) 67 (BC e A1 c1 A2 e.ar.length M):=by
  rw[hW];have:=ah.new (w.alloc (.cells #[bn E b.length L,bn R loops.length F] 121 (0,0))) 67 (BC e A1 c1 A2 e.ar.length M)
  rwa [World.size_alloc] at this
 have a2:W.heap.size=w.heap.size+2:=by rw[hW];simp
 rw[<- hW];clear hW a2;obtain⟨ED,EE⟩:=ah.c2 B0;obtain⟨gG,fZ,fV,gI,gJ,gK,gQ,fM⟩:=ah.c8 B1;have Tc:=qh (NG loops (bn E b.length L) R F B e.nm W ⟨_,_,_,rfl⟩ (MW.o.2.keep (p.mono m.o.2.2.2)) (bp m.o.2.2.2 p.size));rcases a7.o with ⟨hf,J⟩ | ⟨i,hi,hf,J⟩
 .have hp:Ai R (pO loops e.nm) = bo none:=by unfold pO Ai;rw[J];rfl
  rw[hp] at Tc;have U:=qh (show e.kind b loops at_=(0,5) by rw[HK.o];unfold vK;rw[hf]);clear hf J hp B0 B1;go_wp2_with fail;refine Tc.o.mono ?_;rintro P W2 ⟨rfl,t⟩;have I:=p.trans (t.mono p.size);clear ED EE gG fZ fV gI gJ gK gQ fM;go_wp2_with fail;go_ret2;exact⟨by rw[U.o];rfl,I⟩
 .obtain⟨k,bc,rfl,bf,rC,s⟩:=(MW.o.2.keep (p.mono m.o.2.2.2)).at_ hi;have hp:Ai (some k) (pO loops e.nm) = bo (some (k.add (i*2))):=by unfold pO Ai;rw[J,if_pos (by omega)];simp
  rw[hp] at Tc;obtain⟨d,iW⟩:=af (loops[i]);have aD:d∈loops:=by rw[<- iW];exact bE hi
  rw[iW] at rC hf;have HF:=qh (show vK loops e.nm at_=if eX d.loops at_ then some (d.loops ++ [d.nm]) else none by unfold vK;rw[hf]);obtain⟨⟨A',c',rfl,wK,bi⟩,be,aw,a5⟩:=rC;have O:=qh (bq wK (bq aw (MV.o d aD)));obtain⟨ac,ab⟩:=H7 s;obtain⟨q,hq⟩:=af (eX d.loops at_);have HQ:=qh hq;have a1:=qh (show ∀ w',IY W w'->Calls Tryz.prog 89 #[bn A' d.loops.length c',bn A at_.length c] w' λ e x=>e = .returned (.bool q)/\IY W x from λ w' l=>by
   have h:=Fp d.loops at_ A' c' A c B w' O.o.2.1 m.o.1 (O.o.1.below (l.mono (bp m.o.2.2.2 p.size))) (m.o.2.1.below ((p.trans (l.mono p.size)).mono m.o.2.2.2)) m.o.2.2.1 (bp m.o.2.2.2 (bp p.size l.size));rw[hq] at h;exact h.mono λ _ _ ⟨he,K⟩=>⟨he,l.trans (K.mono l.size)⟩)
  clear wK aw a5 aD s iW hf J hp hq;go_wp2_with fail;refine Tc.o.mono ?_;rintro P W2 ⟨rfl,t⟩;have I:=p.trans (t.mono p.size);have ak:W2.cell? (k.add (i*2))=some (bm d.nm):=Below.cell_of t ac;have al:W2.cell? ⟨(k.add (i*2)).block,(k.add (i*2)).off+1,none⟩=some (bn A' d.loops.length c'):=Below.cell_of t ab;clear ED EE gG fZ fV gI gJ gK gQ fM Tc;go_wp2_with fail;refine (a1.o W2 t).mono ?_;rintro P W9 ⟨rfl,eP⟩;have V:=p.trans (eP.mono p.size);have B0:=B0.below eP B0.lt;have B1:=B1.below eP B1.lt;clear ak al t I;have ak:W9.cell? (k.add (i*2))=some (bm d.nm):=Below.cell_of eP ac;have al:W9.cell? ⟨(k.add (i*2)).block,(k.add (i*2)).off+1,none⟩=some (bn A' d.loops.length c'):=Below.cell_of eP ab;have a3:Below B W W9:=eP.mono (bp m.o.2.2.2 p.size);clear ac ab eP;cases q
  .have U:=qh (show e.kind b loops at_=(0,5) by rw[HK.o,HF.o,HQ.o];rfl);clear B0 B1;go_wp2_with fail;go_ret2;exact⟨by rw[U.o];rfl,V⟩
  .have X:=V.mono m.o.2.2.2;have h1:0<e.ar.length:=by have:=HP.o.2;omega
   obtain⟨ad,ci,rfl,l,aa,G⟩:=aZ.arg (HR.o.1.below X) (λ i h=>(HR.o.2 i h).keep X) h1;obtain⟨a,S⟩:=af (e.ar[0]);have ar:a∈e.ar:=by rw[<- S];exact bE h1
   have T:e.ar = [a]:=by have h:=NP e.ar HP.o.2 h1;rwa [S] at h
   have U:=qh (show e.kind b loops at_=if (a.kind b loops (d.loops ++ [d.nm])).2≠0 then (0,(a.kind b loops (d.loops ++ [d.nm])).2) else vH e.op (a.kind b loops (d.loops ++ [d.nm])).1 by
    rw[HK.o,HF.o,HQ.o];show qV b loops e.ar (d.loops ++ [d.nm]) e.op=_;rw[T,qV])
   obtain⟨g,hg⟩:=af (a.kind b loops (d.loops ++ [d.nm]));obtain⟨g1,g2⟩:=g;have Qn:=qh hg;rw[S] at aa;have a6:=aa;obtain⟨a9,bd,bh,bj,aR,aW,a0⟩:=aa;rename_i A3 c3 A4 c4 bb;have f:∀ j u,(ai a A3 c3 A4 c4)[j]?=some u->W9.cell? (ad.add j)=some u:=λ j u N=>by have h:=G j u N;rwa [Nat.zero_mul,kH] at h
   obtain⟨kC,kT,nZ,tV,tX,tY,tZ,wJ⟩:=Cm f;clear aR aW a0 G S hg T;clear h1 f HR;have nP:=qh a6;obtain⟨ED,EE⟩:=ah.c2 B0;have fZ:W9.cell? ⟨w.heap.size+1,1,none⟩=some (bk bl e.op):=B1.cell 1;have fM:W9.cell? ⟨w.heap.size+1,7,none⟩=some (bn (some ad) 1 M):=by have h:=B1.cell 7;rwa [show ((BC e A1 c1 (some ad) e.ar.length M):Array Value)[7]?=some (bn (some ad) 1 M) from by rw[HP.o.2];rfl] at h
   have Q:=qh (show ∀ w',IY W9 w'->w'.cell? ⟨w.heap.size,0,none⟩=some (bn E b.length L)/\w'.cell? ⟨w.heap.size,1,none⟩=some (bn (some k) loops.length F)/\w'.cell? ⟨w.heap.size+1,7,none⟩=some (bn (some ad) 1 M)/\w'.cell? (k.add (i*2))=some (bm d.nm)/\w'.cell? ⟨(k.add (i*2)).block,(k.add (i*2)).off+1,none⟩=some (bn A' d.loops.length c')/\w'.cell? ad=some (bk bl a.k)/\w'.cell? ⟨ad.block,ad.off+1,none⟩=some (bk bl a.op)/\w'.cell? ⟨ad.block,ad.off+2,none⟩=some (bm a.nm)/\w'.cell? ⟨ad.block,ad.off+3,none⟩=some (bk bl a.v.k)/\w'.cell? ⟨ad.block,ad.off+4,none⟩=some (bk bl a.v.n)/\w'.cell? ⟨ad.block,ad.off+5,none⟩=some (bm a.v.s)/\w'.cell? ⟨ad.block,ad.off+6,none⟩=some (bn A3 a.v.l.length c3)/\w'.cell? ⟨ad.block,ad.off+7,none⟩=some (bn A4 a.ar.length c4)/\IY W9 w' from λ w' l=>⟨Below.cell_of l ED,Below.cell_of l EE,Below.cell_of l fM,Below.cell_of l ak,Below.cell_of l al,Below.cell_of l kC,Below.cell_of l kT,Below.cell_of l nZ,Below.cell_of l tV,Below.cell_of l tX,Below.cell_of l tY,Below.cell_of l tZ,Below.cell_of l wJ,l⟩);have z:IY W9 W9:=Below.refl _ _;have NQ:∀ o,IY W9 (W9.alloc o).drew:=λ o=>(z.alloc (bs _) _).drew;have C:B<=W9.heap.size:=bp m.o.2.2.2 V.size;have a4:=qh (HI.o a ar);have aL:=qh a3;have K1:=qh (show ∀ w',IY W9 w'->Calls Tryz.prog 38 #[bn A' d.loops.length c'] w' λ P x=>∃ v,P = .returned v/\x.ownsRow W9.heap.size 9 1 v d.loops.length (jq d.loops)/\IY W9 x/\IY w' x from λ w' l =>
    (cloneS d.loops A' c' B w' ((O.o.1.below ((Below.refl B W).trans (show Below B W w' from (show Below B W W9 from aL.o).trans (l.mono C))))) (by have:=O.o.2.2;omega)).mono λ _ _ ⟨v,he,ho,K⟩=>⟨v,he,own_base ho l.size,l.trans (K.mono l.size),K⟩)
   have K3:=qh (show ∀ w' g D,IY W9 w'->w'.ownsRow W9.heap.size 9 1 (bn (some ⟨g,0,none⟩) (d.loops.length+1) D) (d.loops.length+1) (jq d.loops ++ [bm d.nm])->Calls Tryz.prog 43 #[.agg #[bn E b.length L,bn (some k) loops.length F],.agg (BC a A3 c3 A4 a.ar.length c4),bn (some ⟨g,0,none⟩) (d.loops.length+1:Nat) D] w' λ P x=>P = .returned (.tuple #[bk bl g1,bk bl g2])/\IY W9 x from by
    intro w' g D l ho;have a8:=X.trans (l.mono C);have an:=V.trans (l.mono V.size);have y:(d.loops ++ [d.nm]).length=d.loops.length+1:=by simp
    have h:=a4.o E (some k) L F w'.heap.size (d.loops ++ [d.nm]) (some ⟨g,0,none⟩) D _ w' ((nP.o.keep (l.mono C)).up (bp C l.size)) (XF (MW.o.1.keep (an.mono m.o.2.2.2)) (bp C l.size)) (XG (MW.o.2.keep (an.mono m.o.2.2.2)) (bp C l.size)) (by rw[y];have:=O.o.2.2;unfold maxLen;omega) (by rw[bV,Ci,y];exact Reads.ig ho) (by rw[y];exact SY ho) (bs _);rw[y,Qn.o] at h;exact h.mono λ _ _ ⟨he,K⟩=>⟨he,l.trans (K.mono l.size)⟩)
   clear ar;go_upto_region 4 with (fail);go_region_held3 (λ w'=>w'.cell? ⟨w.heap.size,0,none⟩=some (bn E b.length L)/\w'.cell? ⟨w.heap.size,1,none⟩=some (bn (some k) loops.length F)/\w'.cell? ⟨w.heap.size+1,7,none⟩=some (bn (some ad) 1 M)/\w'.cell? (k.add (i*2))=some (bm d.nm)/\w'.cell? ⟨(k.add (i*2)).block,(k.add (i*2)).off+1,none⟩=some (bn A' d.loops.length c')/\w'.cell? ad=some (bk bl a.k)/\w'.cell? ⟨ad.block,ad.off+1,none⟩=some (bk bl a.op)/\w'.cell? ⟨ad.block,ad.off+2,none⟩=some (bm a.nm)/\w'.cell? ⟨ad.block,ad.off+3,none⟩=some (bk bl a.v.k)/\w'.cell? ⟨ad.block,ad.off+4,none⟩=some (bk bl a.v.n)/\w'.cell? ⟨ad.block,ad.off+5,none⟩=some (bm a.v.s)/\w'.cell? ⟨ad.block,ad.off+6,none⟩=some (bn A3 a.v.l.length c3)/\w'.cell? ⟨ad.block,ad.off+7,none⟩=some (bn A4 a.ar.length c4)/\IY W9 w')
    (first | exact Q.o _ z | exact Q.o _ z.drew | exact Q.o _ r | exact Q.o _ am | exact Q.o _ Y | exact Q.o _ (r.alloc (bp z.size r.size) _) | exact Q.o _ (NQ _))
    (first
     | (go_at_call 38;(with_reducible refine (K1.o _ z.drew).mono ?_);rintro e1 w1 ⟨v,rfl,H,r,ry⟩)
     | (go_at_call 38;(with_reducible refine (K1.o _ (NQ _)).mono ?_);rintro e1 w1 ⟨v,rfl,H,r,ry⟩;have aM:=Below.cell_of (a:=⟨W9.heap.size,0,none⟩) (v:=bm d.nm) ry (by simp[go_sem]))
     | (refine step_append_lies _ rfl _ _ 22 rfl W9.heap.size 9 i0 (.string ByteArray.empty) 1 16 Tryz.underlying22 ao ax aE ap rfl (by decide) v d.loops.length (jq d.loops) rfl (H.alloc _) ⟨w1.heap.size,0,none⟩ 1 1 [.string d.nm] rfl rfl (by intro j u hj;cases j <;> simp_all[go_sem]) (by intro u N;simp only[bK] at N;subst N;rfl) (by decide) (by have:=O.o.2.2;unfold maxLen;omega) (by have:=O.o.2.2;omega) (by have:=r.size;first | omega | (simp;omega)) _ rfl ?_;intro g D w2 av Z _ _;have am:=(r.alloc (bp z.size r.size) _).grown Z (by have:=r.size;simp;omega) (λ g hg=>(H.lt g hg).1))
     | (refine step_append_lies _ rfl _ _ 22 rfl W9.heap.size 9 i0 (.string ByteArray.empty) 1 16 Tryz.underlying22 ao ax aE ap rfl (by decide) v d.loops.length (jq d.loops) rfl H ⟨W9.heap.size,0,none⟩ 1 1 [.string d.nm] rfl rfl (by intro j u hj;cases j with | zero=>(have N:u = .string d.nm:=by simpa using hj.symm);subst N;exact aM | succ j=>simp at hj) (by intro u N;simp only[bK] at N;subst N;rfl) (by decide) (by have:=O.o.2.2;unfold maxLen;omega) (by have:=O.o.2.2;omega) (by have:=r.size;first | omega | (simp;omega)) _ rfl ?_;intro g D w2 av Z _ _;have am:=r.grown Z r.size (λ g hg=>(H.lt g hg).1))
     | (go_at_call 43;(with_reducible refine (K3.o _ _ _ am av).mono ?_);rintro e3 w3 ⟨rfl,Y⟩))
   all_goals
    have yB:=V.trans (Y.mono V.size);by_cases h0:g2=0;rotate_left
    .have bg:(g2 != 0)=true:=by simpa using h0
     have Aj:=qh (show e.kind b loops at_=(0,g2) by rw[U.o,Qn.o,if_pos h0]);clear h0 Q HK U;go_wp2_with fail;go_ret2;exact⟨by rw[Aj.o];rfl,yB⟩
    .subst h0;have Aj:=qh (show e.kind b loops at_=vH e.op g1 by rw[U.o,Qn.o];exact if_neg (λ h=>h rfl));have ba:w3.cell? ⟨w.heap.size+1,1,none⟩=some (bk bl e.op):=Below.cell_of Y (B1.cell 1);obtain⟨ob,ae⟩:=af (NJ e.op g1);have ay:=qh (Xt e.op g1 w3 HP.o.1.1 HP.o.1.2);rw[ae] at ay;have nS:=qh (show e.kind b loops at_=if ob then (Jl e.op g1,0) else (0,8) by rw[Aj.o,abp _ _ HP.o.1.1 HP.o.1.2,ae]);clear Q HK U Aj ae;go_wp2_with fail;refine ay.o.mono ?_;rintro P w4 ⟨rfl,rfl⟩;cases ob
     .have Em:=qh (show e.kind b loops at_=(0,8) by rw[nS.o];rfl);go_wp2_with fail;go_ret2;exact⟨by rw[Em.o];try rfl,yB⟩
     .have Em:=qh (show e.kind b loops at_=(Jl e.op g1,0) by rw[nS.o];rfl);go_wp2_with fail;go_ret2;exact⟨by rw[Em.o];try rfl,yB⟩
theorem UA (f:List aG) (b:List aQ) (m l:List (ByteArray × Value)) (k j:Nat) (u:∀ d∈b,d.loops.length<=1048576) (e:Ex):e.fault=0->Qz f b m l k j e:=by
 induction e using Ex.ind with
 | h e ih =>
  intro s B at_ A c cs w r p n g q o;have P:=kG (nX s);have t:=λ a h=>ih a h (nY s a h);have i:=P.k;obtain i | i | i | i | i:e.k=1\/e.k=2\/e.k=3\/e.k=4\/e.k=5:=by omega
  .exact abt e f b i m l k j B at_ A c cs w r p n g q o
  .exact abv e f b i m l k j B at_ A c cs w r p n g q o
  .exact abu e f b i m l k j B at_ A c cs w r p n g q o
  .exact abx e f b i m l k j B at_ A c cs w P t r p n g q o
  .exact aby e f b i m l k j B at_ A c cs w P t u r p n g q o
theorem abD (e:Ex) (f:List aG) (b:List aQ) (n:e.k=5) (g h:Option Addr) (k i B:Nat) (at_:List ByteArray) (A:Option Addr) (c:Nat) (cs:List Value) (w:World) (C:uh e) (F:∀ a∈e.ar,Kz f b a) (z:∀ d∈b,d.loops.length<=1048576) (v:aZ w B e cs) (E:bU w B g f) (D:dX w B h b) (I:at_.length<=maxLen) (s:bV w B A at_) (V:at_.length<=c) (l:B<=w.heap.size) :
  IE 43 #[.agg #[bn g f.length k,bn h b.length i],.agg cs.toArray,bn A at_.length c] w (.tuple #[bk bl (e.kind f b at_).1,bk bl (e.kind f b at_).2]):=by
 have J:=qh v;obtain⟨hn,hs,hl,Qh,v,K,hi⟩:=v;rename_i q u o p cs;have L:(e.k == 1)=false:=by rw[n];rfl
 have P:(e.k == 2)=false:=by rw[n];rfl
 have Z:(e.k == 3)=false:=by rw[n];rfl
 have U:(e.k == 5)=true:=by rw[n];rfl
 have N:=qh (λ w' (t:IY w w')=>QA e f b n g h k i B at_ A c _ w' C F z (J.o.keep (t.mono l)) (E.keep (t.mono l)) (D.keep (t.mono l)) I (s.below (t.mono l)) V (bp l t.size));clear v K hi E D s l n C F z;show Calls Tryz.prog 43 #[.agg #[bn g f.length k,bn h b.length i],.agg (BC e q u o e.ar.length p),bn A at_.length c] w _;go_enter Tryz.func43,Tryz.ntmps43;go_upto_region 1 with (fail);obtain⟨W,m⟩:=aC (((w.alloc (.cells #[bn g f.length k,bn h b.length i] 121 (0,0))).alloc (.cells (BC e q u o e.ar.length p) 67 (0,0))));have j:IY w W:=by rw[m];exact (((Below.refl _ w).alloc (bs _) _).alloc (by simp) _)
 have B0:ah W (w.heap.size) 121 #[bn g f.length k,bn h b.length i]:=by
  rw[m];have:=ah.new w 121 #[bn g f.length k,bn h b.length i];have:=this.alloc (.cells (BC e q u o e.ar.length p) 67 (0,0));exact this
 have B1:ah W (w.heap.size+1) 67 (BC e q u o e.ar.length p):=by
  rw[m];have:=ah.new (w.alloc (.cells #[bn g f.length k,bn h b.length i] 121 (0,0))) 67 (BC e q u o e.ar.length p)
  rwa [World.size_alloc] at this
 have y:W.heap.size=w.heap.size+2:=by rw[m];simp
 rw[<- m];clear m y;obtain⟨T,M⟩:=ah.c2 B0;obtain⟨R,fZ,Y,X,Q,O,S,H⟩:=ah.c8 B1;clear B0 B1;go_wp2_with fail;refine (N.o W j).mono ?_;rintro G w2 ⟨rfl,x⟩;have r:=j.trans (x.mono j.size);clear T M R fZ Y X Q O S H;go_wp2_with fail;go_ret2;exact⟨by first | rfl | trivial,r⟩
theorem UB {f:List aG} {b:List aQ} (x:WOk f b) (v:∀ d∈b,d.loops.length<=1048576) (e:Ex):e.fault=0->Kz f b e:=by
 induction e using Ex.ind with
 | h e ih =>
  intro t k m q l B at_ A c cs w s r n j g p o;have P:=kG (nX t);have u:=λ a h=>ih a h (nY t a h);have i:=P.k;obtain i | i | i | i | i:e.k=1\/e.k=2\/e.k=3\/e.k=4\/e.k=5:=by omega
  .exact abB e f b i k m q l B at_ A c cs w P s r n j g p o
  .exact abA e f b i k m q l B at_ A c cs w P s r n j g p o
  .exact abC e f b i k m q l B at_ A c cs w P s r n j g p o
  .exact abz e f b i k m q l B at_ A c cs w P u (λ a h=>SS x a (nY t a h) at_) s r n j g p o
  .exact abD e f b i k m q l B at_ A c cs w P u v s r n j g p o
theorem qc {α:Type} {f:List α->α->Int}:∀ {l b:List α},aU f b l=0->∀ i (h:i<l.length),f (b ++ l.take i) l[i]=0
 | a :: r,b,h,i,hi=>by
  rw[aU] at h;by_cases h0:f b a=0
  .rw[if_neg (by rw[h0];decide)] at h;cases i with
   | zero=>simpa using h0
   | succ i =>
    have:=qc h i (by simpa using hi);simpa using this
  .rw[if_pos h0] at h;exact absurd h h0
theorem Ak {α:Type} {g:α->ByteArray}:∀ {l:List α},(∀ i (h:i<l.length),∀ d∈l.take i,g d≠g l[i])->l.Pairwise (λ a b=>g a≠g b)
 | l,h=>by
  rw[List.pairwise_iff_getElem];intro i j f c e;exact h j c l[i] (by rw[List.mem_take_iff_getElem];exact⟨i,by omega,rfl⟩)
theorem XH {a:List aG} {loops:List aQ} (h:bJ a loops=0):WOk a loops:=by
 unfold bJ at h;by_cases c1:aU aH [] a=0
 .rw[if_neg (by rw[c1];decide)] at h;by_cases c2:aU aJ [] loops=0
  .refine⟨λ c g=>?_,Ak λ i e d f=>?_,Ak λ i e d f=>?_⟩
   .obtain⟨i,e,rfl⟩:=bL.1 g;have:=qc c1 i e;unfold aH at this;split at this
    .exact absurd this (by decide)
    split at this
    .exact absurd this (by decide)
    split at this
    .exact absurd this (by decide)
    .rename_i b;exact pM (Bool.not_eq_true _▸b)
   .have:=qc c1 i e;unfold aH at this;split at this
    .exact absurd this (by decide)
    split at this
    .exact absurd this (by decide)
    .rename_i b;simp only[bN,bO,decide_eq_true_iff,not_exists,not_and] at b;exact b d f
   .have:=qc c2 i e;unfold aJ at this;split at this
    .exact absurd this (by decide)
    split at this
    .exact absurd this (by decide)
    .rename_i b;simp only[bN,bO,decide_eq_true_iff,not_exists,not_and] at b;exact b d f
  .rw[if_pos c2] at h;exact absurd h c2
 .rw[if_pos c1] at h;exact absurd h c1
def jY (e:Ex) (cells:List aG) (loops:List aQ) (at_:List ByteArray):Int × Int:=
 if dh e≠0 then (0,dh e) else if bJ cells loops≠0 then (0,bJ cells loops) else if dF loops at_=false then (0,9) else e.kind cells loops at_
theorem uo {e:Ex} (h:dh e=0):e.fault=0:=by
 unfold dh at h;split at h
 .exact absurd h (by decide)
 .exact h
theorem QB (e:Ex) (b:List aG) (a:List aQ) (R S:Option Addr) (cc Y B:Nat) (at_:List ByteArray) (A:Option Addr) (c:Nat) (cs:List Value) (w:World) (X:aZ w B e cs) (hC:bU w B R b) (hN:dX w B S a) (ha:at_.length<=maxLen) (E:bV w B A at_) (hc:at_.length<=c) (hB:B<=w.heap.size) (hp:e.parts<=1000000) (Cj:∀ d∈a,d.loops.length<=1048576) (hs:∀ s∈at_,s.size<=maxLen) :
  IE 178 #[.agg cs.toArray,bn R b.length cc,bn S a.length Y,bn A at_.length c] w (.tuple #[bk bl (jY e b a at_).1,bk bl (jY e b a at_).2]):=by
 have HX:=qh X;have MW:=qh (bq hC hN);have f:=qh (bq ha (bq E (bq hc hB)));have MV:=qh Cj;obtain⟨hn,al,hl,Qh,X,hr,hi⟩:=X;rename_i V Q T U cs;have HS:=qh hs;clear hs X hr hi hC hN E hB Cj;show Calls Tryz.prog 178 #[.agg (BC e V Q T e.ar.length U),bn R b.length cc,bn S a.length Y,bn A at_.length c] w _;go_enter Tryz.func178,Tryz.ntmps178;go_upto_region 1 with (fail);obtain⟨W,J⟩:=aC ((w.alloc (.cells (BC e V Q T e.ar.length U) 67 (0,0))));have m:IY w W:=by rw[J];exact ((Below.refl _ w).alloc (bs _) _)
 have B0:ah W (w.heap.size) 67 (BC e V Q T e.ar.length U):=by
  rw[J];have:=ah.new w 67 (BC e V Q T e.ar.length U);exact this
 have ac:W.heap.size=w.heap.size+1:=by rw[J];simp
 rw[<- J];clear J ac;obtain⟨gG,fZ,fV,gI,gJ,Z,gQ,fM⟩:=ah.c8 B0;go_wp2_with fail;obtain⟨f1,t⟩:=af (dh e);have O:=qh t;refine (oI e B _ W (HX.o.keep (m.mono f.o.2.2.2)) (bp f.o.2.2.2 m.size) (by omega)).mono ?_;rw[t];rintro F j ⟨rfl,r⟩;have K:=m.trans (r.mono m.size);have B0:=B0.below r B0.lt;clear gG fZ fV gI gJ Z gQ fM r t;by_cases h0:f1=0;rotate_left
 .have bg:(f1 != 0)=true:=by simpa using h0
  have u:=qh (show jY e b a at_=(0,f1) by unfold jY;rw[O.o,if_pos h0]);clear h0;go_wp2_with fail;go_ret2;exact⟨by rw[u.o];try rfl,K⟩
 subst h0;have aa:=bp f.o.2.2.2 K.size;obtain⟨f2,D⟩:=af (bJ b a);have k:=qh D;have N:=K.mono f.o.2.2.2;clear D;go_upto_region 4 with (fail);have H:=qh (DI b a R cc S Y B j (MW.o.1.keep N) (MW.o.2.keep N) aa);go_wp2_with fail;refine H.o.mono ?_;rintro F p ⟨⟨x,rfl,M,o⟩,v⟩;rw[k.o] at M;subst M;have XI:=qh o;have g:=K.trans (v.mono K.size);have B0:=B0.below v B0.lt;clear o v H;by_cases h0:x=0;rotate_left
 .have bg:(x != 0)=true:=by simpa using h0
  have u:=qh (show jY e b a at_=(0,x) by unfold jY;rw[O.o,k.o,if_neg (by decide),if_pos h0]);clear h0;go_wp2_with fail;go_ret2;exact⟨by rw[u.o];try rfl,g.alloc g.size _⟩
 subst h0;obtain⟨jl,jv,I,C,G,P⟩:=XI.o rfl;have y:=qh (show MS p B (j.heap.size+1) (j.heap.size+1+1) jl jv b a from ⟨I,G,C,P⟩);clear I C G P XI;obtain⟨q,hq⟩:=af (dF a at_);have HQ:=qh hq;obtain⟨W3,l⟩:=aC (p.alloc (.cells #[.map (some (j.heap.size+1)),.map (some (j.heap.size+1+1))] 162 (0,0)));have n:IY p W3:=l▸(Below.refl _ p).alloc (bs _) _;have B3:ah W3 p.heap.size 162 #[.map (some (j.heap.size+1)),.map (some (j.heap.size+1+1))]:=l▸ah.new p _ _;have h:=g.trans (n.mono g.size);have B0:=B0.below n B0.lt;have ab:=bp f.o.2.2.2 g.size;have L:=bp f.o.2.2.2 h.size;have y:=qh (y.o.keep n ab);have Tc:=qh (yZ at_ A c (j.heap.size+1) (j.heap.size+1+1) B jv a W3 f.o.1 HS.o (f.o.2.1.below (h.mono f.o.2.2.2)) f.o.2.2.1 L y.o.n y.o.nn);rw[hq] at Tc;clear hq;go_wp2_with fail;rw[<- l];clear l n;refine Tc.o.mono ?_;rintro F W4 ⟨rfl,i⟩;have z:=h.trans (i.mono h.size);have ae:=bp f.o.2.2.2 z.size;have y:=qh (y.o.keep i L);have B0:=B0.below i B0.lt;have B3:=B3.below i B3.lt;clear Tc i;cases q
 .have u:=qh (show jY e b a at_=(0,9) by unfold jY;rw[O.o,k.o,if_neg (by decide),if_neg (by decide),if_pos HQ.o]);go_wp2_with fail;go_ret2;exact⟨by rw[u.o];try rfl,z⟩
 .have u:=qh (show jY e b a at_=e.kind b a at_ by unfold jY;rw[O.o,k.o,if_neg (by decide),if_neg (by decide),if_neg (by rw[HQ.o];decide)]);have ad:=qh (UA b a jl jv (j.heap.size+1) (j.heap.size+1+1) MV.o e (uo O.o) B at_ A c _ W4 (HX.o.keep (z.mono f.o.2.2.2)) y.o f.o.1 (f.o.2.1.below (z.mono f.o.2.2.2)) f.o.2.2.1 ae);obtain⟨gG,fZ,fV,gI,gJ,Z,gQ,fM⟩:=ah.c8 B0;obtain⟨Fq,Fv⟩:=ah.c2 B3;clear B0 B3;go_wp2_with fail;refine ad.o.mono ?_;rintro F W5 ⟨rfl,ak⟩;clear gG fZ fV gI gJ Z gQ fM Fq Fv;go_wp2_with fail;go_ret2;exact⟨by rw[u.o];try rfl,z.trans (ak.mono z.size)⟩
theorem NU (e:Ex) (b:List aG) (a:List aQ) (p n:Option Addr) (y m B:Nat) (at_:List ByteArray) (A:Option Addr) (c:Nat) (cs:List Value) (w:World) (S:aZ w B e cs) (hC:bU w B p b) (hN:dX w B n a) (ha:at_.length<=maxLen) (F:bV w B A at_) (hc:at_.length<=c) (hB:B<=w.heap.size) (hp:e.parts<=1000000) (Cj:∀ d∈a,d.loops.length<=1048576) (H:b.length<=y) (E:a.length<=m) (L:Sp w) :
  IE 18 #[.agg cs.toArray,bn p b.length y,bn n a.length m,bn A at_.length c] w (.tuple #[bk bl (jY e b a at_).1,bk bl (jY e b a at_).2]):=by
 have HX:=qh S;have K:=qh (bq hC hN);have f:=qh (bq ha (bq F (bq hc hB)));have MV:=qh Cj;obtain⟨hn,am,hl,Qh,S,hr,hi⟩:=S;rename_i R O P Q cs;have N:=qh (bq H (bq E L));clear H E L S hr hi hC hN F hB Cj;show Calls Tryz.prog 18 #[.agg (BC e R O P e.ar.length Q),bn p b.length y,bn n a.length m,bn A at_.length c] w _;go_enter Tryz.func18,Tryz.ntmps18;go_upto_region 1 with (fail);obtain⟨W,I⟩:=aC ((w.alloc (.cells (BC e R O P e.ar.length Q) 67 (0,0))));have i:IY w W:=by rw[I];exact ((Below.refl _ w).alloc (bs _) _)
 have B0:ah W (w.heap.size) 67 (BC e R O P e.ar.length Q):=by
  rw[I];have:=ah.new w 67 (BC e R O P e.ar.length Q);exact this
 have X:W.heap.size=w.heap.size+1:=by rw[I];simp
 rw[<- I];clear I X;obtain⟨U,Z,V,Y,gJ,T,gQ,fM⟩:=ah.c8 B0;go_wp2_with fail;obtain⟨f1,s⟩:=af (dh e);have M:=qh s;refine (Fh e B _ W (HX.o.keep (i.mono f.o.2.2.2)) (bp f.o.2.2.2 i.size) hp (aA N.o.2.2 i)).mono ?_;rw[s];rintro G C ⟨rfl,r⟩;have J:=i.trans (r.mono i.size);have B0:=B0.below r B0.lt;clear U Z V Y gJ T gQ fM r s;by_cases h0:f1=0;rotate_left
 .have bg:(f1 != 0)=true:=by simpa using h0
  have t:=qh (show jY e b a at_=(0,f1) by unfold jY;rw[M.o,if_pos h0]);clear h0;go_wp2_with fail;go_ret2;exact⟨by rw[t.o];try rfl,J⟩
 subst h0;have ak:=bp f.o.2.2.2 J.size;obtain⟨f2,D⟩:=af (bJ b a);have h:=qh D;have al:=J.mono f.o.2.2.2;clear D;obtain⟨W3,k⟩:=aC (C.alloc (.cells #[bn p b.length y,bn n a.length m] 121 (0,0)));have x:IY C W3:=k▸(Below.refl _ C).alloc (bs _) _;have B3:ah W3 C.heap.size 121 #[bn p b.length y,bn n a.length m]:=k▸ah.new C _ _;have g:=J.trans (x.mono J.size);have B0:=B0.below x B0.lt;have ac:=bp f.o.2.2.2 g.size;have u:=qh (NI b a p y n m B W3 (K.o.1.keep (g.mono f.o.2.2.2)) (K.o.2.keep (g.mono f.o.2.2.2)) N.o.1 N.o.2.1 ac (aA N.o.2.2 g));rw[h.o] at u;go_wp2_with fail;rw[<- k];clear k x;obtain⟨ED,EE⟩:=ah.c2 B3;go_wp2_with fail;refine u.o.mono ?_;rintro G W4 ⟨rfl,j⟩;have z:=g.trans (j.mono g.size);have ae:=bp f.o.2.2.2 z.size;have B0:=B0.below j B0.lt;have B3:=B3.below j B3.lt;clear j u ED EE;by_cases h0:f2=0;rotate_left
 .have bg:(f2 != 0)=true:=by simpa using h0
  have t:=qh (show jY e b a at_=(0,f2) by unfold jY;rw[M.o,h.o,if_neg (by decide),if_pos h0]);clear h0;go_wp2_with fail;go_ret2;exact⟨by rw[t.o];try rfl,z⟩
 subst h0;obtain⟨q,hq⟩:=af (dF a at_);have HQ:=qh hq;have v:=qh (wU a n m at_ A c B W4 (K.o.2.keep (z.mono f.o.2.2.2)) f.o.1 (f.o.2.1.below (z.mono f.o.2.2.2)) f.o.2.2.1 ae);rw[hq] at v;clear hq;go_wp2_with fail;refine v.o.mono ?_;rintro G W5 ⟨rfl,l⟩;have o:=z.trans (l.mono z.size);have aa:=bp f.o.2.2.2 o.size;have B0:=B0.below l B0.lt;have B3:=B3.below l B3.lt;clear l v;cases q
 .have t:=qh (show jY e b a at_=(0,9) by unfold jY;rw[M.o,h.o,if_neg (by decide),if_neg (by decide),if_pos HQ.o]);go_wp2_with fail;go_ret2;exact⟨by rw[t.o];try rfl,o⟩
 .have t:=qh (show jY e b a at_=e.kind b a at_ by unfold jY;rw[M.o,h.o,if_neg (by decide),if_neg (by decide),if_neg (by rw[HQ.o];decide)]);have ab:=qh (UB (XH h.o) MV.o e (uo M.o) p n y m B at_ A c _ W5 (HX.o.keep (o.mono f.o.2.2.2)) (K.o.1.keep (o.mono f.o.2.2.2)) (K.o.2.keep (o.mono f.o.2.2.2)) f.o.1 (f.o.2.1.below (o.mono f.o.2.2.2)) f.o.2.2.1 aa);obtain⟨U,Z,V,Y,gJ,T,gQ,fM⟩:=ah.c8 B0;obtain⟨Fq,Fv⟩:=ah.c2 B3;clear B0 B3;go_wp2_with fail;refine ab.o.mono ?_;rintro G W6 ⟨rfl,ad⟩;clear U Z V Y gJ T gQ fM Fq Fv;go_wp2_with fail;go_ret2;exact⟨by rw[t.o];try rfl,o.trans (ad.mono o.size)⟩
end Go.Proofs.YtcnagconagpkcaaGreatDoor
namespace Go.Proofs.YtcnagconagpkcaaGreatDoor
open Go.RowKit
def cmpL:List Int->List Int->Int
 | [],[]=>0
 | [],_ :: _=>-1
 | _ :: _,[]=>1
 | a :: l,b :: r=>if oK a b=0 then cmpL l r else oK a b
theorem UC {a b:List Int} {k:Nat} (c:k<a.length) (d:k<b.length) (h:oK a[k] b[k]=0):cmpL (a.drop k) (b.drop k)=cmpL (a.drop (k+1)) (b.drop (k+1)):=by
 rw[bw c,bw d];simp[cmpL,h]
theorem UD {a b:List Int} {k:Nat} (c:k<a.length) (d:k<b.length) (h:oK a[k] b[k]≠0):cmpL (a.drop k) (b.drop k)=oK a[k] b[k]:=by
 rw[bw c,bw d];simp[cmpL,h]
theorem IK (l:List Int) (h:0<l.length):cmpL [] l = -1:=by cases l <;> simp_all[cmpL]
theorem FB (l:List Int) (h:0<l.length):cmpL l []=1:=by cases l <;> simp_all[cmpL]
theorem XK {b a:List Int} {k:Nat} (d:k<=b.length) (c:k<=a.length) (h:¬ (k<b.length/\k<a.length)):cmpL (b.drop k) (a.drop k)=oK b.length a.length:=by
 by_cases h1:k<b.length
 .rw[show a.drop k = [] from bQ (by omega),FB _ (by simp;omega)];simp only[oK];rw[if_neg (by omega),if_pos (by omega)]
 .rw[show b.drop k = [] from bQ (by omega)];by_cases h2:k<a.length
  .rw[IK _ (by simp;omega)];simp only[oK];rw[if_pos (by omega)]
  .rw[show a.drop k = [] from bQ (by omega)];simp only[oK,cmpL];rw[if_neg (by omega),if_neg (by omega)]
theorem En (A B:Option Addr) (n c m d B1 B2:Nat) (b g:List Int) (w:World) (P:n<=maxLen) (N:m<=maxLen)
  (p:Reads w B1 1 A n (bI bl b)) (s:Reads w B2 1 B m (bI bl g)) (l:B1<=w.heap.size) (q:B2<=w.heap.size) :
  IE 182 #[bn A n c,bn B m d] w (bk bl (cmpL b g)):=by
 have G:=p.more l;have F:=s.more q;clear p s l q;have H:n=b.length:=by have:=G.1;rw[qi] at this;omega
 have E:m=g.length:=by have:=F.1;rw[qi] at this;omega
 subst H E;unfold maxLen at P N;go_enter Tryz.func182,Tryz.ntmps182;go_wp2;go_loopw [5] (λ i wr=>∃ k:Nat,k<=b.length/\k<=g.length/\i = bk bl k/\IY w wr/\cmpL b g=cmpL (b.drop k) (g.drop k)) (λ i _=>b.length - (intOf i).toNat)
 case atStart=>exact⟨0,bA _,bA _,rfl,Below.refl _ _,rfl⟩
 case round =>
  obtain⟨k,z,C,rfl,j,L⟩:=hrel;have x:=qh L;clear L;by_cases hlt:k<b.length/\k<g.length
  .obtain⟨o,t⟩:=hlt;obtain⟨S,u,rfl,_,K,R⟩:=(G.below j).at_ o;obtain⟨T,v,rfl,_,I,O⟩:=(F.below j).at_ t;obtain⟨_,rfl⟩:=jm _ _ _ _ K;obtain⟨_,rfl⟩:=jm _ _ _ _ I;clear K I G F;by_cases hz:oK b[k] g[k]=0
   .have r:=UC o t hz;have a:(oK b[k] g[k] != 0)=false:=by simp[hz]
    have y:=qh r;have D:=qh a;clear r hz a;go_wp2;go_quiet ((go_at_call 220;exact Calls.quiet_of_same (EU _ _ _)));have a:=D.o;go_wp2;go_roundw
    case rel=>exact⟨k+1,by omega,by omega,by go_num,j.drewN _,by rw[x.o,y.o]⟩
    case measure=>simp[intOf];omega
   .have r:=UD o t hz;have a:(oK b[k] g[k] != 0)=true:=by simp[hz]
    have y:=qh r;have D:=qh a;clear r hz a;go_wp2;go_quiet ((go_at_call 220;exact Calls.quiet_of_same (EU _ _ _)));have a:=D.o;go_wp2;go_ret;exact⟨ag (by rw[x.o,y.o]),j.drewN _⟩
  .have J:=XK z C hlt;have M:=qh J;clear J;have f:k<b.length->¬ k<g.length:=λ h Q=>hlt ⟨h,Q⟩;clear hlt;by_cases o:k<b.length
   .have t:=f o;clear f;go_wp2_with (go_at_call 220;refine (BU _ _ _).mono ?_;rintro e w' ⟨rfl,rfl⟩);go_ret;exact⟨ag (by rw[x.o,M.o]),j⟩
   .clear f;go_wp2_with (go_at_call 220;refine (BU _ _ _).mono ?_;rintro e w' ⟨rfl,rfl⟩);go_ret;exact⟨ag (by rw[x.o,M.o]),j⟩
theorem QC (a b:Int):oK a b = -1\/oK a b=0\/oK a b=1:=by unfold oK;split <;> (try split) <;> simp
theorem UE (a b:Int):oK a b = -oK b a:=by unfold oK;split <;> split <;> (try split) <;> omega
theorem UF (a:Int):oK a a=0:=by unfold oK;simp
theorem FC {a b:Int} (h:a<b):oK a b = -1:=by unfold oK;rw[if_pos h]
theorem zi:∀ a b:List Int,cmpL a b = -1\/cmpL a b=0\/cmpL a b=1
 | [],[]=>by simp[cmpL]
 | [],_ :: _=>by simp[cmpL]
 | _ :: _,[]=>by simp[cmpL]
 | a :: l,b :: r=>by
  unfold cmpL;split
  .exact zi l r
  .exact QC a b
def Td (l:List UInt8):List Int:=l.map λ c=>(c.toNat:Int)
theorem Tf:∀ a b:List UInt8,bt a b=cmpL (Td a) (Td b)
 | [],[]=>rfl
 | [],_ :: _=>rfl
 | _ :: _,[]=>rfl
 | a :: l,b :: r=>by
  unfold bt;simp only[Td,List.map_cons,cmpL];have d:=Tf l r;simp only[Td] at d;by_cases h:a<b
  .have c:(a.toNat:Int)<b.toNat:=by have:=bB.1 h;omega
   rw[if_pos h,FC c];simp
  .by_cases h2:b<a
   .have c:(b.toNat:Int)<a.toNat:=by have:=bB.1 h2;omega
    rw[if_neg h,if_pos h2,UE,FC c];simp
   .have e:a=b:=UInt8.toNat_inj.1 (by have:=mt bB.2 h;have:=mt bB.2 h2;omega);subst e;rw[if_neg h,if_neg h,if_pos (UF _)];exact d
end Go.Proofs.YtcnagconagpkcaaGreatDoor
namespace Go.Proofs.YtcnagconagpkcaaGreatDoor
open Go.RowKit
attribute [local go_sem ↓] Go.wp_at_zero Go.wp_at_succ
structure gm where
 nm:ByteArray
 row:List Int
 v:Val
 asked:Bool
structure oN where
 nm:ByteArray
 row:List Int
 nums:List Int
structure uq (w:World) (B:Nat) (d:gm) (cs:List Value):Prop where
 ex:∃ A1 c1 A2 c2,cs = [bm d.nm,bn A1 d.row.length c1,bk bl d.v.k,bk bl d.v.n,bm d.v.s,bn A2 d.v.l.length c2,.bool d.asked]/\Reads w B 1 A1 d.row.length (bI bl d.row)/\Reads w B 1 A2 d.v.l.length (bI bl d.v.l)
 h1:d.nm.size<=maxLen
 h2:d.row.length<=maxLen
 h3:d.v.s.size<=maxLen
 h4:d.v.l.length<=maxLen
structure Ti (w:World) (B:Nat) (d:oN) (cs:List Value):Prop where
 ex:∃ A1 c1 A2 c2,cs = [bm d.nm,bn A1 d.row.length c1,bn A2 d.nums.length c2]/\Reads w B 1 A1 d.row.length (bI bl d.row)/\Reads w B 1 A2 d.nums.length (bI bl d.nums)
 h1:d.nm.size<=maxLen
 h2:d.row.length<=maxLen
 h3:d.nums.length<=maxLen
theorem uq.keep {w w':World} {B:Nat} {d:gm} {cs:List Value} (h:uq w B d cs) (a:Below B w w'):uq w' B d cs:=by
 obtain⟨⟨k,m,c,l,e,i,f⟩,b,g,j,n⟩:=h;exact⟨⟨k,m,c,l,e,i.below a,f.below a⟩,b,g,j,n⟩
theorem Ti.keep {w w':World} {B:Nat} {d:oN} {cs:List Value} (h:Ti w B d cs) (a:Below B w w'):Ti w' B d cs:=by
 obtain⟨⟨k,m,c,l,e,i,f⟩,b,g,j⟩:=h;exact⟨⟨k,m,c,l,e,i.below a,f.below a⟩,b,g,j⟩
abbrev su:=aB uq 7
abbrev xW:=aB Ti 3
theorem su.keep {w w':World} {B:Nat} {A:Option Addr} {l:List gm} (h:su w B A l) (a:Below B w w'):su w' B A l:=aB.keep (λ _ _ h=>h.keep a) h a
theorem xW.keep {w w':World} {B:Nat} {A:Option Addr} {l:List oN} (h:xW w B A l) (a:Below B w w'):xW w' B A l:=aB.keep (λ _ _ h=>h.keep a) h a
def qQ (row:List Int) (n:Nat):Int:=if row.length≠n then 3 else if row.any dP=true then 1 else 0
def KD (nm:ByteArray) (row:List Int) (IL:ByteArray) (row':List Int):Int:=
 if bt nm.data.toList IL.data.toList=0 then cmpL row row' else bt nm.data.toList IL.data.toList
def dI (nm:ByteArray) (row:List Int) (IL:ByteArray) (row':List Int):Int:=if KD nm row IL row'=0 then 6 else if KD nm row IL row' = -1 then 7 else 0
theorem QD (a b:List UInt8):bt a b = -1\/bt a b=0\/bt a b=1:=by rw[Tf];exact zi _ _
theorem QE (nm:ByteArray) (row:List Int) (b:ByteArray) (a:List Int):KD nm row b a = -1\/KD nm row b a=0\/KD nm row b a=1:=by
 unfold KD;split
 .exact zi _ _
 .exact QD _ _
def leO (p:Option Int) (a:Int):Bool:=match p with
 | some q=>decide (a<=q)
 | none=>false
def wX:Option Int->List Int->Int
 | _,[]=>0
 | p,a :: r=>if dP a=true then 1 else if leO p a=true then 7 else wX (some a) r
def FD (l:List Int) (k:Nat):Option Int:=if k=0 then none else l[k - 1]?
theorem QF (l:List Int) (k:Nat) (h:k<l.length):wX (FD l k) (l.drop k)=if dP l[k]=true then 1 else if 0<k/\l[k]<=l.getD (k - 1) 0 then 7 else wX (FD l (k+1)) (l.drop (k+1)):=by
 rw[bw h,wX];have b:FD l (k+1)=some l[k]:=by unfold FD;rw[if_neg (by omega)];simp[h]
 rw[b];cases hb:dP l[k]
 .simp only[Bool.false_eq_true,if_false];rcases Nat.eq_zero_or_pos k with a | a
  .subst a;rw[if_neg (show ¬ (0<0/\_) from λ h=>absurd h.1 (by omega))];rfl
  .have c:FD l k=some (l.getD (k - 1) 0):=by
    unfold FD;rw[if_neg (by omega),List.getD_eq_getElem?_getD,bR (show k - 1<l.length by omega)];rfl
   rw[c];by_cases h1:l[k]<=l.getD (k - 1) 0
   .rw[if_pos (by simpa [leO] using h1),if_pos ⟨a,h1⟩]
   .rw[if_neg (by simpa [leO] using h1),if_neg (λ h=>h1 h.2)]
 .rw[if_pos rfl,if_pos rfl]
def gW (cells:List aG) (prev:List gm) (b:gm):Int:=
 match cells.find? (λ c=>decide (c.nm=b.nm)) with
 | none=>5
 | some c=>if qQ b.row c.loops.length≠0 then qQ b.row c.loops.length else if bG b.v≠0 then bG b.v else if 1<b.v.k/\b.v.k≠c.kind then 8 else
  match prev.getLast? with
  | none=>0
  | some p=>dI b.nm b.row p.nm p.row
def lJ (loops:List aQ) (prev:List oN) (r:oN):Int:=
 match loops.find? (λ n=>decide (n.nm=r.nm)) with
 | none=>5
 | some n=>if qQ r.row n.loops.length≠0 then qQ r.row n.loops.length else if wX none r.nums≠0 then wX none r.nums else
  match prev.getLast? with
  | none=>0
  | some p=>dI r.nm r.row p.nm p.row
def jH (cells:List aG) (loops:List aQ) (bounds:List gm) (rows:List oN):Int:=
 if bJ cells loops≠0 then bJ cells loops else if 20000<bounds.length\/20000<rows.length then 2 else
 if aU (gW cells) [] bounds≠0 then aU (gW cells) [] bounds else aU (lJ loops) [] rows
theorem Aq (row:List Int) (n:Nat) (A:Option Addr) (c B:Nat) (w:World) (v:n<=maxLen) (y:row.length<=maxLen) (q:Reads w B 1 A row.length (bI bl row)) :
  KG 123 #[bn A row.length c,bk bl (n:Nat)] w (bk bl (qQ row n)):=by
 unfold maxLen at y v;by_cases hne:row.length=n;rotate_left
 .have g:=qh (show qQ row n=3 by unfold qQ;rw[if_pos hne]);have f:((row.length:Int) != (n:Int))=true:=by simp;omega
  clear hne;go_enter Tryz.func123,Tryz.ntmps123;go_wp2;go_ret;exact⟨ag (by rw[g.o]),rfl⟩
 have r:=qh q;have g:=qh (show qQ row n=if row.any dP=true then 1 else 0 by unfold qQ;rw[if_neg (λ h=>h hne)]);have f:((row.length:Int) != (n:Int))=false:=by simp;omega
 clear q;have z:=qh hne;clear hne;go_enter Tryz.func123,Tryz.ntmps123;go_wp2
 go_loop [13,6] (λ i _=>∃ k:Nat,k<=row.length/\i = bk bl k/\Hid ((row.take k).any dP=false)) (λ i _=>row.length - (intOf i).toNat)
 case atStart=>exact⟨0,bA _,rfl,qh rfl⟩
 case round =>
  obtain⟨k,C,rfl,m⟩:=hrel;by_cases hlt:k<row.length
  .obtain⟨ad,rfl,-,a⟩:=r.o.2 (by omega);have u:w.cell? (ad.add k)=some (bk bl row[k]):=a k _ (by rw[bI,b0,bR hlt];rfl);obtain⟨x,d⟩:=af (row[k]);rw[d] at u;obtain⟨b,t⟩:=af (aN x 1 999);have o:=qh (show dP row[k]=b by rw[d];exact t);have j:=qh hlt;clear d a;cases b
   .have s:=qh (zX (p:=dP) j.o o.o m.o);go_wp2_with ((go_at_call 121;refine (aX _ _ _ _).mono ?_;rintro e w' ⟨rfl,rfl⟩))
    go_round
    case rel=>exact⟨k+1,j.o,by go_num,s⟩
    case measure =>
     have:=j.o;simp[intOf];omega
   .have l:=qh (show qQ row n=1 by rw[g.o,if_pos (Ey (p:=dP) j.o o.o)]);go_wp2_with ((go_at_call 121;refine (aX _ _ _ _).mono ?_;rintro e w' ⟨rfl,rfl⟩));go_ret;exact⟨ag (by rw[l.o]),rfl⟩
  .have l:=qh (show qQ row n=0 by rw[g.o,zY (by omega) m.o];rfl);go_wp2;go_ret;exact⟨ag (by rw[l.o]),rfl⟩
theorem wY (nm b:ByteArray) (row a:List Int) (A A':Option Addr) (c c' B:Nat) (w:World) (t:row.length<=maxLen) (l:a.length<=maxLen) (u:Reads w B 1 A row.length (bI bl row)) (d:Reads w B 1 A' a.length (bI bl a)) (o:B<=w.heap.size) :
  IE 125 #[bm nm,bn A row.length c,bm b,bn A' a.length c'] w (bk bl (dI nm row b a)):=by
 have m:=qh (En A A' row.length c a.length c' B B row a w t l u d o o);have n:=qh (show dI nm row b a=dI nm row b a from rfl);clear t l u d o;obtain⟨z,g⟩:=af (KD nm row b a);have r:z = -1\/z=0\/z=1:=g▸QE _ _ _ _;obtain⟨y,d⟩:=af (bt nm.data.toList b.data.toList);have i:=qh d;have k:=qh g;by_cases h0:y=0
 .subst h0;have h:cmpL row a=z:=by rw[<- g];unfold KD;rw[if_pos d]
  rw[h] at m;clear d g h;rcases r with rfl | rfl | rfl
  .have f:=qh (show dI nm row b a=7 from n.o.trans (by unfold dI;rw[k.o];rfl));go_enter Tryz.func125,Tryz.ntmps125;go_wp2_with (go_at_call 181;refine (Tryz.strings_Compare _ _ _).mono ?_;rw[i.o];rintro e w' ⟨rfl,rfl⟩);refine m.o.mono ?_;rintro s q ⟨rfl,j⟩;go_wp2;go_ret;exact⟨ag (by rw[f.o]),j⟩
  .have f:=qh (show dI nm row b a=6 from n.o.trans (by unfold dI;rw[k.o];rfl));go_enter Tryz.func125,Tryz.ntmps125;go_wp2_with (go_at_call 181;refine (Tryz.strings_Compare _ _ _).mono ?_;rw[i.o];rintro e w' ⟨rfl,rfl⟩);refine m.o.mono ?_;rintro s q ⟨rfl,j⟩;go_wp2;go_ret;exact⟨ag (by rw[f.o]),j⟩
  .have f:=qh (show dI nm row b a=0 from n.o.trans (by unfold dI;rw[k.o];rfl));go_enter Tryz.func125,Tryz.ntmps125;go_wp2_with (go_at_call 181;refine (Tryz.strings_Compare _ _ _).mono ?_;rw[i.o];rintro e w' ⟨rfl,rfl⟩);refine m.o.mono ?_;rintro s q ⟨rfl,j⟩;go_wp2;go_ret;exact⟨ag (by rw[f.o]),j⟩
 .have p:y=z:=by rw[<- g,<- d];unfold KD;rw[if_neg (by rw[d];exact h0)]
  subst p;clear d g m;rcases r with rfl | rfl | rfl
  .have f:=qh (show dI nm row b a=7 from n.o.trans (by unfold dI;rw[k.o];rfl));go_enter Tryz.func125,Tryz.ntmps125;go_wp2_with (go_at_call 181;refine (Tryz.strings_Compare _ _ _).mono ?_;rw[i.o];rintro e w' ⟨rfl,rfl⟩);go_ret;exact⟨ag (by rw[f.o]),Below.refl _ _⟩
  .exact absurd rfl h0
  .have f:=qh (show dI nm row b a=0 from n.o.trans (by unfold dI;rw[k.o];rfl));go_enter Tryz.func125,Tryz.ntmps125;go_wp2_with (go_at_call 181;refine (Tryz.strings_Compare _ _ _).mono ?_;rw[i.o];rintro e w' ⟨rfl,rfl⟩);go_ret;exact⟨ag (by rw[f.o]),Below.refl _ _⟩
def DK (w:World):Prop:=Lib.TabIs Tryz.prog w "internal/strconv.uint64pow10" .u64 Lib.pow10Tab
theorem DK.below {w w':World} (h:DK w) (a:IY w w'):DK w':=aA h a
theorem DL {T e:TypeId} {B b:Nat} {p:Value} {j:List Value} {w w':World} (h:bS T e B b p j w) (a:IY w w'):bS T e B b p j w':=by
 have i:=h.lt;obtain⟨l,v,f,c,d⟩:=h;refine⟨l,v,(a.block b i).trans f,?_,d⟩;refine c.kept (row:=none) ⟨a.os,a.tape,a.output,a.size,λ k m _=>a.block k m⟩ ?_;cases hv:v.ownBlock with
 | none=>exact .inl rfl
 | some g=>exact .inr (by simp)
theorem UG {T e:TypeId} {B b:Nat} {a:List Value} {w w':World} (h:bv T e B b a w) (c:IY w w'):bv T e B b a w':=
 h.imp (DL · c) (DL · c)
theorem yK (a b:List UInt8):br a ++ br b=br (a ++ b):=by simp[br]
def iJ (nm:List UInt8) (row:List Int):List UInt8:=nm ++ row.flatMap (λ n=>32 :: bx n)
theorem KH (nm:List UInt8) (row:List Int) (k:Nat) (h:k<row.length):iJ nm (row.take (k+1))=iJ nm (row.take k) ++ [32] ++ bx row[k]:=by
 unfold iJ;rw[b1 h,List.flatMap_append];simp
def Ar (row:List Int):Prop:=∀ n∈row,1<=n/\n<=999
theorem qW (nm:List UInt8):∀ (row:List Int),Ar row->(iJ nm row).length<=nm.length+22*row.length
 | [],_=>by simp[iJ]
 | a :: r,h=>by
  have b:=qW nm r (λ n c=>h n (List.mem_cons_of_mem _ c));have e:=h a (List.mem_cons_self ..);have d:=b2 a (by omega) (by omega);unfold iJ at b ⊢;simp only[List.flatMap_cons,b3,List.length_cons] at b ⊢;omega
theorem IM (B b:Nat) (q:List Value) (c:UInt8) (w:World) (h:bv 220 5 B b q w) (D:q.length+1<=140737488355328) (L:B<=w.heap.size) :
  Calls Tryz.prog 127 #[bo (some ⟨b,0,none⟩),.int .u8 c.toNat] w λ e w'=>e = .returned .nilIface/\(bS 220 5 B b (bo (some ⟨b,0,none⟩)) (q ++ br [c]) w'/\Below B w w'):=by
 obtain⟨J,P,A,y,t⟩:=info_parts infoByte;go_enter Tryz.func127,Tryz.ntmps127;go_wp2_with (refine (yH B b q _ h).mono ?_);rintro e n ⟨rfl,M,o⟩;obtain⟨F,v,i,l,x⟩:=M;have V:n.cell? ⟨b,0,none⟩=some (bo (some ⟨b,0,none⟩)):=by rw[bD i];rfl
 have c1:n.cell? ⟨b,1,none⟩=some v:=by rw[bD i];rfl
 have z:b<n.heap.size:=by
  rcases Nat.lt_or_ge b n.heap.size with C | C
  .exact C
  .simp[Array.getElem?_eq_none C] at i
 have K:=o.size;go_wp2_with (at_builtin;refine wpList_append_own _ rfl _ _ 218 rfl B 5 J (.int .u8 0) 1 1 Tryz.underlying218 P A y t rfl (by decide) _ _ _ rfl (l.alloc _) ⟨n.heap.size,0,none⟩ 1 1 [.int .u8 c.toNat] rfl rfl ?c1 ?c2 ?c3 ?c4 ?c5 ?_)
 case c1=>intro j u R;cases j <;> simp_all[go_sem]
 case c2=>intro u G;simp only[bK] at G;subst G;rfl
 case c3=>unfold maxLen;omega
 case c4=>omega
 case c5=>simp;omega
 intro I r a d _;have f:r.heap[b]?=some (.cells #[bo (some ⟨b,0,none⟩),v] 220 (0,0)):=by
  rw[d.block b (by simp;omega) (λ e=>x e.symm),Lib.alloc_old _ _ _ z];exact i
 have U:r.cell? ⟨b,0,none⟩=some (bo (some ⟨b,0,none⟩)):=by rw[bD f];rfl
 have S:r.cell? ⟨b,1,none⟩=some v:=by rw[bD f];rfl
 have Q:r.frozen? ⟨b,1,none⟩=false:=Lib.frozen_of_heap f 1;obtain⟨H,E,m,rfl⟩:∃ H E m,I = bn H E m:=by
  rcases a.2 with ⟨s,_⟩ | ⟨g,m,N,s,_⟩
  .exact⟨_,_,_,s⟩
  .exact⟨_,_,_,s⟩
 go_wp2;go_ret;refine⟨rfl,?_,?_⟩
 .exact Lib.BuilderAt.put (T:=220) (e:=5) F f (bs':=q ++ br [c]) (by simpa [br] using a) (by decide)
 .exact ((o.alloc (by omega) _).grown d (by simp;omega) (λ k O=>(l.lt k O).1)).setCell (p:=⟨b,1,none⟩) F _
theorem FH (nm:ByteArray) (row:List Int) (A:Option Addr) (c B:Nat) (w:World) (Y:nm.size<=1000000) (hl:row.length<=1048576) (J:Ar row) (Q:Reads w B 1 A row.length (bI bl row)) (O:B<=w.heap.size) (j:DK w) :
  IE 77 #[bm nm,bn A row.length c] w (bm ⟨(iJ nm.data.toList row).toArray⟩):=by
 have L:=qh (bq Q O);have T:=qh j;have Z:=qh J;have V:nm.data.toList.length<=1000000:=by simpa using Y
 have q:=qh (λ k=>qW nm.data.toList (row.take k) (λ n h=>J n (List.mem_of_mem_take h)));clear Q O j J;go_enter Tryz.func77,Tryz.ntmps77;go_wp2_with fail;refine (vF w.heap.size w.heap.size [] nm _ (Lib.fresh_isBuilder 220 5 w) (by simp;omega) (by simp)).mono ?_;rintro e w1 ⟨rfl,s,z⟩;have f:bv 220 5 w.heap.size w.heap.size (br (iJ nm.data.toList (row.take 0))) w1:=.inr (by have h:=s;rw[bN,Lib.strCells_eq] at h;simpa [iJ] using h);have r:=qh f;have z:IY w w1:=((Below.refl _ w).alloc (bs _) _).trans z;clear s f;go_wp2_with fail;go_loopw [12,7] (λ i _ wr=>∃ k:Nat,k<=row.length/\i = bk bl k/\Hid (bv 220 5 w.heap.size w.heap.size (br (iJ nm.data.toList (row.take k))) wr)/\IY w wr) (λ i _ _=>row.length - (intOf i).toNat)
 case atStart=>exact⟨0,bA _,rfl,r,z⟩
 case round =>
  obtain⟨k,hk,rfl,p,a⟩:=hrel;clear r z;by_cases hlt:k<row.length
  .obtain⟨ad,rfl,-,b⟩:=(L.o.1.below (a.mono L.o.2)).2 (by omega);have W:wr.cell? (ad.add k)=some (bk bl row[k]):=b k _ (by rw[bI,b0,bR hlt];rfl);have t:=qh (KH nm.data.toList row k hlt);obtain⟨x,o⟩:=af (row[k]);have u:1<=x/\x<=999:=o▸Z.o _ (bE hlt);rw[o] at W t;have S:=qh hlt;have P:=qh u;have F:=qh (b2 x (by omega) (by omega));have M:=qh (show (iJ nm.data.toList (row.take k)).length<=1000000+22*1048576 by
    have h:=q.o k;rw[List.length_take] at h;omega)
   clear b o u;go_wp2_with fail;refine (IM w.heap.size w.heap.size _ 32 wr p.o (by rw[bX];have:=M.o;omega) a.size).mono ?_;rintro e y ⟨rfl,d,g⟩;have I:=qh d;have C:=a.trans g;clear d g;go_wp2_with fail;refine (Tryz.strconv_Itoa x (by have:=P.o;omega) (by have:=P.o;omega) y (T.o.below C)).mono ?_;rintro e w3 ⟨rfl,kk,os,v⟩;have m:IY y w3:=v▸Lib.below_grow _ y (bs _) _ _;have N:=C.trans (m.mono C.size);have D:=qh (UG (.inr I.o) m);clear v m;go_wp2_with fail;have U:=qh (show (br (iJ nm.data.toList (row.take k)) ++ br [32]).length+(⟨(bx x).toArray⟩:ByteArray).size<=140737488355328 by
    rw[b3,bX,bX,show (⟨(bx x).toArray⟩:ByteArray).size=(bx x).length by simp[ByteArray.size]];have:=M.o;have:=F.o;simp;omega)
   refine (vF w.heap.size w.heap.size _ _ w3 D.o U.o N.size).mono ?_;rintro e X ⟨rfl,l,R⟩;rw[Lib.strCells_toArray,yK,yK,<- t.o] at l;have G:=qh (show bv 220 5 w.heap.size w.heap.size (br (iJ nm.data.toList (row.take (k+1)))) X from .inr l);have E:=N.trans R;clear l R;go_wp2_with fail;go_roundw
   case rel=>exact⟨k+1,S.o,by go_num,G,E⟩
   case measure =>
    have:=S.o;simp[intOf];omega
  .have K:row.take k=row:=List.take_of_length_le (by omega);have H:=qh (show bv 220 5 w.heap.size w.heap.size (br (iJ nm.data.toList row)) wr by have h:=p.o;rwa [K] at h);clear K p;go_wp2_with fail;refine (Tryz.Builder_String_any w.heap.size w.heap.size _ wr H.o a.size).mono ?_;rintro e y ⟨rfl,d⟩;go_wp2_with fail;go_ret;exact⟨rfl,a.trans d⟩
def FI (d:gm):ByteArray:=⟨(iJ d.nm.data.toList d.row).toArray⟩
def FK (d:oN):ByteArray:=⟨(iJ d.nm.data.toList d.row).toArray⟩
inductive IP {α:Type} (P:ByteArray->Value->α->Prop):List (ByteArray × Value)->List α->Prop
 | nil:IP P [] []
 | cons {s:ByteArray} {v:Value} {a:α} {kv:List (ByteArray × Value)} {l:List α} (h:P s v a) (t:IP P kv l):IP P ((s,v) :: kv) (a :: l)
theorem IP.imp {α:Type} {P Q:ByteArray->Value->α->Prop} (b:∀ s v a,P s v a->Q s v a):∀ {c:List (ByteArray × Value)} {l:List α},IP P c l->IP Q c l
 | _,_,.nil=>.nil
 | _,_,.cons h t=>.cons (b _ _ _ h) (t.imp b)
theorem IP.len {α:Type} {P:ByteArray->Value->α->Prop}:∀ {a:List (ByteArray × Value)} {l:List α},IP P a l->a.length=l.length
 | _,_,.nil=>rfl
 | _,_,.cons _ t=>by simp[t.len]
def aex (w:World) (B:Nat) (s:ByteArray) (v:Value) (d:gm):Prop:=s=FI d/\∃ cs:List Value,v = .agg cs.toArray/\uq w B d cs
def rowP (w:World) (B:Nat) (s:ByteArray) (v:Value) (d:oN):Prop:=s=FK d/\∃ A c,v = bn A d.nums.length c/\Reads w B 1 A d.nums.length (bI bl d.nums)/\d.nums.length<=maxLen
structure KvB (w:World) (B:Nat) (kv:List (ByteArray × Value)) (l:List gm):Prop where
 rel:IP (aex w B) kv l.reverse
structure KvR (w:World) (B:Nat) (kv:List (ByteArray × Value)) (l:List oN):Prop where
 rel:IP (rowP w B) kv l.reverse
theorem KvB.len {w:World} {B:Nat} {a:List (ByteArray × Value)} {l:List gm} (h:KvB w B a l):a.length=l.length:=by rw[h.rel.len,b4]
theorem KvR.len {w:World} {B:Nat} {a:List (ByteArray × Value)} {l:List oN} (h:KvR w B a l):a.length=l.length:=by rw[h.rel.len,b4]
theorem KvB.keep {w w':World} {B:Nat} {a:List (ByteArray × Value)} {l:List gm} (h:KvB w B a l) (e:Below B w w'):KvB w' B a l:=
 ⟨h.rel.imp λ _ _ _ ⟨b,cs,c,d⟩=>⟨b,cs,c,d.keep e⟩⟩
theorem KvR.keep {w w':World} {B:Nat} {a:List (ByteArray × Value)} {l:List oN} (h:KvR w B a l) (g:Below B w w'):KvR w' B a l:=
 ⟨h.rel.imp λ _ _ _ ⟨b,A,c,d,e,f⟩=>⟨b,A,c,d,e.below g,f⟩⟩
theorem KvB.put {w:World} {B:Nat} {a:List (ByteArray × Value)} {l:List gm} (h:KvB w B a l) {d:gm} {cs:List Value} (b:uq w B d cs):KvB w B ((FI d,.agg cs.toArray) :: a) (l ++ [d]):=
 ⟨by rw[b5];exact .cons ⟨rfl,cs,rfl,b⟩ h.rel⟩
theorem KvR.put {w:World} {B:Nat} {a:List (ByteArray × Value)} {l:List oN} (h:KvR w B a l) {d:oN} {A:Option Addr} {c:Nat} (e:Reads w B 1 A d.nums.length (bI bl d.nums)) (b:d.nums.length<=maxLen):KvR w B ((FK d,bn A d.nums.length c) :: a) (l ++ [d]):=
 ⟨by rw[b5];exact .cons ⟨rfl,A,c,rfl,e,b⟩ h.rel⟩
structure uu (w:World) (B gs m1 m2 m3 m4:Nat) (jl jv zV Iw:List (ByteArray × Value)) (cells:List aG) (loops:List aQ) (lb:List gm) (lr:List oN):Prop where
 blk:ah w gs 168 #[.map (some m1),.map (some m2),.map (some m3),.map (some m4)]
 ty:MS w B m1 m2 jl jv cells loops
 m3m:aP w m3 zV
 m4m:aP w m4 Iw
 kb:KvB w B zV lb
 kr:KvR w B Iw lr
 ne:gs≠m3/\gs≠m4/\m1≠m3/\m1≠m4/\m2≠m3/\m2≠m4/\m3≠m4/\B<=m3/\B<=m4/\B<=w.heap.size
theorem uu.keep {w w':World} {B v p l o u:Nat} {t q m r:List (ByteArray × Value)} {i:List aG} {g:List aQ} {s:List gm} {lr:List oN} (h:uu w B v p l o u t q m r i g s lr) (j:IY w w'):uu w' B v p l o u t q m r i g s lr:=by
 obtain⟨a,b,c,d,e,f,n⟩:=h;have k:=n.2.2.2.2.2.2.2.2.2;exact⟨a.below j a.lt,b.keep j k,c.below j c.lt,d.below j d.lt,e.keep (j.mono k),f.keep (j.mono k),n.1,n.2.1,n.2.2.1,n.2.2.2.1,n.2.2.2.2.1,n.2.2.2.2.2.1,n.2.2.2.2.2.2.1,n.2.2.2.2.2.2.2.1,n.2.2.2.2.2.2.2.2.1,bp k j.size⟩
theorem nD {B:Nat} {w w':World} {row:Option Nat} (a:w.grownBy w' row) (b:B<=w.heap.size) (c:∀ k,row=some k->B<=k):Below B w w':=(Below.refl B w).grown a b c
theorem uu.aj8 {w w':World} {B E r p n D:Nat} {A u o x:List (ByteArray × Value)} {j:List aG} {i:List aQ} {z:List gm} {lr:List oN} (h:uu w B E r p n D A u o x j i z lr) (m:w.grownBy w' (some n)) {d:gm} {cs:List Value} (J:uq w B d cs) (G:aP w' n ((FI d,.agg cs.toArray) :: o)):uu w' B E r p n D A u ((FI d,.agg cs.toArray) :: o) x j i (z ++ [d]) lr:=by
 obtain⟨a,b,c,f,e,g,y,F,q,K,t,I,v,L,H,s⟩:=h;have l:Below B w w':=nD m s (λ k C=>by injection C with C;omega);refine⟨a.grown m (λ e=>y (by injection e)),⟨b.c.kept m (λ e=>q (by injection e)),b.cc.keep l,b.n.kept m (λ e=>t (by injection e)),b.nn.keep l⟩,G,f.kept m (λ e=>v (by injection e with e;exact e.symm)),(e.put J).keep l,g.keep l,y,F,q,K,t,I,v,L,H,bp s m.size⟩
theorem uu.aj9 {w w':World} {B G t q s n:Nat} {E x r o:List (ByteArray × Value)} {j:List aG} {i:List aQ} {D:List gm} {v:List oN} (h:uu w B G t q s n E x r o j i D v) (m:w.grownBy w' (some n)) {d:oN} {A:Option Addr} {c:Nat} (M:Reads w B 1 A d.nums.length (bI bl d.nums)) (O:d.nums.length<=maxLen) (H:aP w' n ((FK d,bn A d.nums.length c) :: o)):uu w' B G t q s n E x r ((FK d,bn A d.nums.length c) :: o) j i D (v ++ [d]):=by
 obtain⟨a,b,K,f,e,g,N,p,I,C,L,z,y,P,J,u⟩:=h;have l:Below B w w':=nD m u (λ k F=>by injection F with F;omega);refine⟨a.grown m (λ e=>p (by injection e)),⟨b.c.kept m (λ e=>C (by injection e)),b.cc.keep l,b.n.kept m (λ e=>z (by injection e)),b.nn.keep l⟩,K.kept m (λ e=>y (by injection e)),H,e.keep l,(g.put M O).keep l,N,p,I,C,L,z,y,P,J,bp u m.size⟩
theorem aP.put {w:World} {b:Nat} {c:List (ByteArray × Value)} (h:aP w b c) {t e:TypeId} (l:Tryz.prog.underlying t=some (.map 9 e)) (k:c.length<maxLen) {s:ByteArray} (n:s.size<=maxLen) (val:Value) :
  ∃ w',(Instr.mapUpdate t (.map (some b)) (bm s) val).run Tryz.prog w = .ok () w'/\aP w' b ((s,val) :: c)/\w.grownBy w' (some b):=by
 obtain⟨D,j,f,g⟩:=h.ex;obtain⟨w',a,i,m⟩:=j.update (Maps.string_keyed Tryz.underlying9) l k (key:=.string s) (val:=val) (keyS n) (d:=.held val) (ps:=[]) rfl;exact⟨w',a,aP.store f g i,m⟩
theorem XM {b:List aG} {a:List aQ} (h:bJ b a=0):(∀ c∈b,c.nm.size<=16)/\(∀ n∈a,n.nm.size<=16):=by
 have d:∀ s:ByteArray,aV s.data.toList=true->s.size<=16:=by
  intro s h;unfold aV at h;simp only[Bool.and_eq_true,decide_eq_true_iff] at h;have:=h.1.1.1.2;simpa using this
 unfold bJ at h;by_cases c1:aU aH [] b=0
 .rw[if_neg (by rw[c1];decide)] at h;by_cases c2:aU aJ [] a=0
  .refine⟨λ c g=>?_,λ c g=>?_⟩
   .obtain⟨i,f,rfl⟩:=bL.1 g;have:=qc c1 i f;unfold aH at this;split at this
    .exact absurd this (by decide)
    .rename_i e;exact d _ (by simpa using e)
   .obtain⟨i,f,rfl⟩:=bL.1 g;have:=qc c2 i f;unfold aJ at this;split at this
    .exact absurd this (by decide)
    .rename_i e;exact d _ (by simpa using e)
  .rw[if_pos c2] at h;exact absurd h c2
 .rw[if_pos c1] at h;exact absurd h c1
theorem Tj {row:List Int} {n:Nat} (h:qQ row n=0):row.length=n/\Ar row:=by
 unfold qQ at h;split at h
 .exact absurd h (by decide)
 rename_i a;split at h
 .exact absurd h (by decide)
 rename_i b;refine⟨Decidable.not_not.1 a,λ x c=>?_⟩;have d:dP x=false:=by
  cases hbx:dP x with
  | false=>rfl
  | true=>exact absurd (bO.2 ⟨x,c,hbx⟩) b
 exact pM d
theorem XN {a:List aG} {d:List gm} {b:gm} (l:∀ c∈a,c.nm.size<=16) (k:∀ c∈a,c.loops.length<=1048576) (h:gW a d b=0):b.nm.size<=16/\b.row.length<=1048576/\Ar b.row:=by
 unfold gW at h;split at h
 .exact absurd h (by decide)
 rename_i c g;have f:=b6 g;have e:=b7 g;rw[decide_eq_true_iff] at e;by_cases h0:qQ b.row c.loops.length=0
 .obtain⟨i,j⟩:=Tj h0;exact⟨by rw[<- e];exact l c f,by rw[i];exact k c f,j⟩
 .rw[if_pos h0] at h;exact absurd h h0
theorem rows_ok {a:List aQ} {d:List oN} {b:oN} (l:∀ c∈a,c.nm.size<=16) (k:∀ c∈a,c.loops.length<=1048576) (h:lJ a d b=0):b.nm.size<=16/\b.row.length<=1048576/\Ar b.row:=by
 unfold lJ at h;split at h
 .exact absurd h (by decide)
 rename_i c g;have f:=b6 g;have e:=b7 g;rw[decide_eq_true_iff] at e;by_cases h0:qQ b.row c.loops.length=0
 .obtain⟨i,j⟩:=Tj h0;exact⟨by rw[<- e];exact l c f,by rw[i];exact k c f,j⟩
 .rw[if_pos h0] at h;exact absurd h h0
theorem DN {α:Type} (f:List α->α->Int) (l:List α) (k:Nat) (h:k<l.length):aU f (l.take k) (l.drop k)=if f (l.take k) l[k]≠0 then f (l.take k) l[k] else aU f (l.take (k+1)) (l.drop (k+1)):=by
 rw[bw h,aU,b1 h]
end Go.Proofs.YtcnagconagpkcaaGreatDoor
