/- Lemmas. -/
import Derived.Test.YtcnagconagpkcaaGreatDoorZ3
import Derived.Lib.ItoaLen
import Derived.Lib.AppendIntMem
import Derived.Test.YtcnagconagpkcaaGreatDoorRows
import Derived.ProofKit
import Derived.SliceStrings
import Derived.ChangeSlices
import Derived.Deep.Slices
import Derived.Lib.SmallJoins
import Derived.Lib.ItoaNum
set_option maxHeartbeats 2000000
set_option maxRecDepth 100000
open Go.Value renaming int->be, string->bh, slice->bi
open Go.IntKind renaming i64->bf
open Go.Ending renaming returned->bj
open Go.DataW renaming trod->bk, slice->bN, trod_struct->b9
open Nat renaming le_trans->bl, le_refl->bn, mod_lt->bx, zero_le->bA, mul_comm->bK, zero_mul->bS, succ_mul->b5, div_add_mod->b6, pow_succ->cb, strongRecOn->ce
open And renaming intro->bm
open Go.Lib renaming decDigits->bo, compareBytes->bv
open List renaming range->bp, mem_singleton->bq, drop_eq_nil_of_le->br, drop_eq_getElem_cons->bt, getElem_mem->bB, map_cons->bE, getElem?_eq_getElem->bL, foldl_cons->bO, eq_nil_of_length_eq_zero->bR, length_reverse->bX, reverse_append->b0, length_cons->b1, range_succ->b2, flatMap_append->b3, length_append->b4, map_map->b7, mem_append->ca, replicate->cf
open Int renaming tdiv_eq_ediv_of_nonneg->bs, lt_trichotomy->cg, neg_tdiv->ch
open UInt8 renaming lt_iff_toNat_lt->bw, toNat_inj->bT
namespace Go.Proofs.YtcnagconagpkcaaGreatDoor
open Go.RowKit
attribute [local go_sem ↓] Go.wp_at_zero Go.wp_at_succ
theorem JA:(Tryz.prog.info? 3).map (λ i=>(i.zero,i.size,i.bytes))=some (some (.int .i64 0),1,8):=by kernel_rfl
theorem vS {w:World} {B' n:Nat} {e:TypeId} {v:Value} {l:List Int} (h:w.ownsRow B' e 1 v n (bF bf l)):n=l.length/\∃ A c,v = bi A l.length c/\Reads w w.heap.size 1 A l.length (bF bf l)/\∀ ad,A=some ad->B'<=ad.block:=by
 obtain⟨k,m⟩:=id h;have b:n=l.length:=by rw[mX] at k;omega
 subst b;refine⟨rfl,?_⟩;rcases m with ⟨rfl,j⟩ | ⟨g,a,i,rfl,f,q,e3,p,o⟩
 .have d:l = []:=bR j;subst d;exact⟨none,0,rfl,Reads.none_,λ _ h=>by cases h⟩
 .exact⟨_,a,rfl,Reads.fM (c:=a) h,λ ad h=>by injection h with h;rw[<- h];exact f⟩
theorem pV {w:World} {B' n c:Nat} {A:Option Addr} {e:TypeId} {l:List Int} (h:w.ownsRow B' e 1 (bi A l.length c) n (bF bf l)):Reads w w.heap.size 1 A l.length (bF bf l)/\∀ ad,A=some ad->B'<=ad.block:=by
 obtain⟨-,A',c',e,h⟩:=vS h;injection e with e1 _ _;rw[e1];exact h
theorem Bj (b:List Int) (a:Int):bF bf (b ++ [a])=bF bf b ++ [be bf a]:=by simp[bF]
theorem own_below {w w':World} {B size n:Nat} {e:TypeId} {v:Value} {xs:List Value} (h:w.ownsRow B e size v n xs) (g:EG w w'):w'.ownsRow B e size v n xs:=by
 refine⟨h.1,h.2.imp id ?_⟩;rintro ⟨a,c,b,f,i,j,e3⟩;have d:a<w.heap.size:=(h.lt a (by rw[f];rfl)).2;exact⟨a,c,b,f,i,by rw[g.block a d];exact j,e3⟩
theorem aa9 (op:Int):(jL op).2<=1099511627776:=by
 unfold jL
 repeat' split
 all_goals decide
def PX (cells:List aY) (loops:List bP) (mV mZ:List (ByteArray × Value)) (m1 m2:Nat) (e:Ex):Prop:=∀ (B:Nat) (at_:List ByteArray) (A:Option Addr) (c:Nat) (cs:List Value) (w:World),aQ w B e cs->RX w B m1 m2 mV mZ cells loops->at_.length<=maxLen->dB w B A at_->at_.length<=c->B<=w.heap.size ->
  CS 218 #[.agg #[.map (some m1),.map (some m2)],.agg cs.toArray,bi A at_.length c] w (.tuple #[be bf (e.kind cells loops at_).1,be bf (e.kind cells loops at_).2])
theorem aba (e:Ex) (d:List aY) (b:List bP) (y:e.k=4) (mV mZ:List (ByteArray × Value)) (C z B:Nat) (at_:List ByteArray) (A:Option Addr) (c:Nat) (cs:List Value) (w:World) (hP:PM e) (hI:∀ a∈e.ar,PX d b mV mZ C z a) (Y:aQ w B e cs) (hw:RX w B C z mV mZ d b) (ha:at_.length<=maxLen) (O:dB w B A at_) (hc:at_.length<=c) (hB:B<=w.heap.size) :
  CS 218 #[.agg #[.map (some C),.map (some z)],.agg cs.toArray,bi A at_.length c] w (.tuple #[be bf (e.kind d b at_).1,be bf (e.kind d b at_).2]):=by
 have a9:=qh Y;obtain⟨hn,hs,hl,L,Y,hr,hi⟩:=Y;rename_i U c1 M c2 cs;have HK:=qh (show e.kind d b at_=if (jA d b e.ar at_ []).1≠0 then (0,(jA d b e.ar at_ []).1) else zq e.op (jA d b e.ar at_ []).2 by rw[zy,if_neg (by omega),if_neg (by omega),if_neg (by omega),if_neg (by omega)]);have a4:(e.k == 1)=false:=by rw[y];rfl
 have a5:(e.k == 2)=false:=by rw[y];rfl
 have bc:(e.k == 3)=false:=by rw[y];rfl
 have a6:(e.k == 5)=false:=by rw[y];rfl
 have aR:=qh hw;have l:=qh (bm ha (bm O (bm hc hB)));have HR:=qh (bm hr hi);have HI:=qh hI;have HA:=qh L;have Z:=qh (bm (hP.op4 y) (hP.a4 y));obtain⟨i0,aL,aA,a0,aD⟩:=info_parts JA;unfold maxLen at L;clear Y hr hi hw O hB y hI hP;show Calls Tryz.prog 218 #[.agg #[.map (some C),.map (some z)],.agg (BC e U c1 M e.ar.length c2),bi A at_.length c] w _;go_enter Tryz.func218,Tryz.ntmps218;go_upto_region 1 with (fail);obtain⟨W,H⟩:=aH (((w.alloc (.cells #[.map (some C),.map (some z)] 162 (0,0))).alloc (.cells (BC e U c1 M e.ar.length c2) 67 (0,0))));have I:EG w W:=by rw[H];exact (((Below.refl _ w).alloc (bn _) _).alloc (by simp) _)
 have B0:ag W (w.heap.size) 162 #[.map (some C),.map (some z)]:=by
  rw[H];have:=ag.new w 162 #[.map (some C),.map (some z)];have:=this.alloc (.cells (BC e U c1 M e.ar.length c2) 67 (0,0));exact this
 have B1:ag W (w.heap.size+1) 67 (BC e U c1 M e.ar.length c2):=by
  rw[H];have:=ag.new (w.alloc (.cells #[.map (some C),.map (some z)] 162 (0,0))) 67 (BC e U c1 M e.ar.length c2)
  rwa [World.size_alloc] at this
 have ao:W.heap.size=w.heap.size+2:=by rw[H];simp
 rw[<- H];obtain⟨am,ar⟩:=ag.c2 B0;obtain⟨iK,iL,iM,iQ,iR,iT,iU,iC⟩:=ag.c8 B1;have n:EG W W:=Below.refl _ _;clear H ao;go_wp2_with fail;go_loopw [101,14] (λ i kd wr=>∃ (k:Nat) (v:Value) (m:List Int),k<=e.ar.length/\i = be bf k/\kd=v/\Hid (wr.ownsRow W.heap.size 3 1 v k (bF bf m))/\Hid (jA d b e.ar at_ []=jA d b (e.ar.drop k) at_ m)/\EG W wr) (λ i _ _=>e.ar.length - (intOf i).toNat)
 case atStart=>exact⟨0,_,[],bA _,rfl,rfl,qh (World.ownsRow_nil _ _ _ _),qh (by rfl),n⟩
 case round =>
  obtain⟨k,v,m,y,rfl,rfl,HO,HD,n⟩:=hrel;obtain⟨R,A5,c5,rfl,-⟩:=vS HO.o;have a2:=qh R;clear R;have eY:=n.size;have o:EG w wr:=I.trans (n.mono I.size);have T:Below B w wr:=o.mono l.o.2.2.2;have C0:=B0.below n B0.lt;have C1:=B1.below n B1.lt;clear am ar iK iL iM iQ iR iT iU iC;obtain⟨RY,RZ⟩:=ag.c2 C0;obtain⟨lC,aa,ay,a1,aE,aw,aZ,av⟩:=ag.c8 C1;by_cases hlt:k<e.ar.length
  .obtain⟨ad,ci,rfl,hb,E,f⟩:=aQ.arg (HR.o.1.below T) (λ i h=>(HR.o.2 i h).keep T) hlt;obtain⟨a,t⟩:=af (e.ar[k]);have Q:a∈e.ar:=by rw[<- t];exact bB hlt
   obtain⟨g,F⟩:=af (a.kind d b at_);obtain⟨N,V⟩:=g;have aq:=qh F;have D7:=qh (show jA d b (e.ar.drop k) at_ m=if V≠0 then (V,m) else jA d b (e.ar.drop (k+1)) at_ (m ++ [N]) by
    rw[MQ _ _ _ _ _ _ hlt,t,F])
   have X:=qh hlt;have P:=qh (λ w' h1 h2 h3 h4=>HI.o a Q B at_ A c ci w' h1 h2 l.o.1 h3 l.o.2.2.1 h4);rw[t] at E;have tq:=qh E;obtain⟨bb,a3,a8,ba,ac,an,ae⟩:=E;rename_i A3 c3 A4 c4 a7;have qJ:wr.cell? (ad.add (k*8))=some (be bf a.k):=f 0 _ rfl;have rU:wr.cell? ⟨(ad.add (k*8)).block,(ad.add (k*8)).off+1,none⟩=some (be bf a.op):=f 1 _ rfl;have x9:wr.cell? ⟨(ad.add (k*8)).block,(ad.add (k*8)).off+2,none⟩=some (bh a.nm):=f 2 _ rfl;have AP:wr.cell? ⟨(ad.add (k*8)).block,(ad.add (k*8)).off+3,none⟩=some (be bf a.v.k):=f 3 _ rfl;have AQ:wr.cell? ⟨(ad.add (k*8)).block,(ad.add (k*8)).off+4,none⟩=some (be bf a.v.n):=f 4 _ rfl;have AU:wr.cell? ⟨(ad.add (k*8)).block,(ad.add (k*8)).off+5,none⟩=some (bh a.v.s):=f 5 _ rfl;have AV:wr.cell? ⟨(ad.add (k*8)).block,(ad.add (k*8)).off+6,none⟩=some (bi A3 a.v.l.length c3):=f 6 _ rfl;have AZ:wr.cell? ⟨(ad.add (k*8)).block,(ad.add (k*8)).off+7,none⟩=some (bi A4 a.ar.length c4):=f 7 _ rfl;clear ac an ae f t Q F;go_upto_region 25 with (fail);obtain⟨W3,q⟩:=aH (wr.alloc (.cells (BC a A3 c3 A4 a.ar.length c4) 67 (0,0)));have s:EG wr W3:=q▸(Below.refl _ wr).alloc (bn _) _;have B3:ag W3 wr.heap.size 67 (BC a A3 c3 A4 a.ar.length c4):=q▸ag.new wr _ _;have Xd:=qh (show W3.ownsRow W.heap.size 3 1 _ k (bF bf m) from q▸HO.o.alloc _);rw[<- q];clear q qJ rU x9 AP AQ AU AV AZ RY RZ lC aa ay a1 aE aw aZ av;have D0:=C0.below s C0.lt;obtain⟨RY,RZ⟩:=ag.c2 D0;obtain⟨Ls,Lt,Lu,LC,LD,LG,LH,LJ⟩:=ag.c8 B3;have S:EG w W3:=o.trans (s.mono o.size);have K:EG W W3:=n.trans (s.mono eY);go_wp2_with fail;refine (P.o W3 (tq.o.keep (s.mono (bl l.o.2.2.2 o.size))) (aR.o.keep S l.o.2.2.2) (l.o.2.1.below (S.mono l.o.2.2.2)) (bl l.o.2.2.2 S.size)).mono ?_;rw[aq.o];rintro en w4 ⟨rfl,D⟩;have ax:=S.trans (D.mono S.size);have r:EG W w4:=K.trans (D.mono K.size);have G7:=qh (own_below Xd.o D);clear RY RZ Ls Lt Lu LC LD LG LH LJ D0 B3 P;by_cases h0:V=0;rotate_left
   .have bg:(V != 0)=true:=by simpa using h0
    have ng:=qh (show e.kind d b at_=(0,V) by rw[HK.o,HD.o,D7.o,if_pos h0,if_pos h0]);clear h0;go_wp2_with fail;go_ret2;exact⟨by rw[ng.o];rfl,ax⟩
   .subst h0;have ap:=qh (show jA d b e.ar at_ []=jA d b (e.ar.drop (k+1)) at_ (m ++ [N]) by rw[HD.o,D7.o,if_neg (by decide)]);have x:∀ g,Value.ownBlock (.slice A5 m.length c5)=some g->W.heap.size<=g:=λ g F=>(G7.o.lt g F).1;have MR:=qh x;clear x;go_wp2_with (at_builtin;refine wpList_append_own _ rfl _ _ 54 rfl W.heap.size 3 i0 (.int .i64 0) 1 8 Tryz.underlying54 aL aA a0 aD rfl (by decide) _ _ _ rfl (G7.o.alloc _) ⟨w4.heap.size,0,none⟩ 1 1 [.int .i64 N] rfl rfl ?c1 ?c2 ?c3 ?c4 ?c5 ?_)
    case c1=>intro j u hj;cases j <;> simp_all[go_sem]
    case c2=>intro u hu;simp only[bq] at hu;subst hu;rfl
    case c3=>exact bl X.o HA.o
    case c4=>(have h:=bl (Nat.succ_le_of_lt X.o) (bl Z.o.2.2 (aa9 e.op));omega)
    case c5=>(have h:=r.size;simp;omega)
    intro v2 w5 p J _;have aM:EG W w5:=(r.alloc (by have:=r.size;omega) _).grown J (by have:=r.size;simp;omega) (λ g F=>by have:=MR.o g F;omega);have PY:=qh (show w5.ownsRow W.heap.size 3 1 v2 (k+1) (bF bf (m ++ [N])) by rw[Bj];exact p);clear p J;go_wp2;go_roundw
    case rel=>exact⟨k+1,v2,m ++ [N],X.o,by go_num,rfl,PY,ap,aM⟩
    case measure =>
     have:=X.o;simp[intOf];omega
  .have al:k=e.ar.length:=by omega
   have ak:=qh (show jA d b e.ar at_ []=(0,m) by rw[HD.o,br (by omega),jA]);have G:m.length=e.ar.length:=by have:=a2.o;omega
   have ng:=qh (show e.kind d b at_=zq e.op m by rw[HK.o,ak.o];exact if_neg (λ h=>h rfl));have ab:=qh (PW e.op m A5 c5 wr.heap.size wr Z.o.1.1 Z.o.1.2 (by rw[G];exact Z.o.2) (by rw[G];exact HA.o) (pV HO.o).1 (bn _));clear al G;go_wp2_with fail;refine ab.o.mono ?_;rintro en w9 ⟨rfl,jl⟩;go_wp2_with fail;go_ret2;exact⟨by rw[ng.o];try rfl,o.trans (jl.mono o.size)⟩
theorem zA:(Tryz.prog.info? 9).map (λ i=>(i.zero,i.size,i.bytes))=some (some (.string ByteArray.empty),1,16):=by kernel_rfl
theorem cloneS (l:List ByteArray) (A:Option Addr) (c B:Nat) (w:World) (k:dB w B A l) (n:l.length<=1099511627776) :
  Calls Tryz.prog 38 #[bi A l.length c] w λ e w'=>∃ v,e = bj v/\w'.ownsRow w.heap.size 9 1 v l.length (iZ l)/\EG w w':=by
 rcases Nat.eq_zero_or_pos l.length with g | g
 .have j:=bR g;subst j;cases A with
  | none=>exact (Tryz.slices_Clone_string_nil 0 c w).mono λ _ _ ⟨d,m⟩=>⟨_,d,World.ownsRow_nil _ _ _ _,m▸Below.refl _ _⟩
  | some a=>exact (Tryz.slices_Clone_string_zero a c w).mono λ _ _ ⟨v,d,f,_,h⟩=>⟨v,d,f,h⟩
 .obtain⟨b,o,rfl,-,i⟩:=k.plain g;refine (Tryz.slices_Clone_string b o l.length c l w (bn _) (by omega) (dB.cells i)).mono λ _ _ ⟨v,d,f,_,h⟩=>⟨v,d,?_,h⟩;rw[List.take_length] at f;exact f
theorem abb {w:World} {B n size g cap m:Nat} {e:TypeId} {b:List Value} (h:w.ownsRow B e size (bi (some ⟨g,0,none⟩) m cap) n b):n<=cap:=by
 rcases h.2 with ⟨h,-⟩ | ⟨f,a,c,d,-,-,i,-⟩
 .cases h
 .injection d with _ _ e3;omega
theorem IB (l:List ByteArray) (s:ByteArray):iZ (l ++ [s])=iZ l ++ [bh s]:=by simp[iZ]
theorem Xo {α:Type}:∀ (l:List α) (h:l.length=1) (b:0<l.length),l = [l[0]]
 | [a],_,_=>rfl
theorem mf (ad:Addr):ad.add 0=ad:=by unfold Addr.add;simp
theorem own_base {w:World} {B B' size n:Nat} {e:TypeId} {v:Value} {xs:List Value} (h:w.ownsRow B e size v n xs) (d:B'<=B):w.ownsRow B' e size v n xs:=by
 refine⟨h.1,h.2.imp id ?_⟩;rintro ⟨c,b,a,f,g,i⟩;exact⟨c,b,a,f,bl d g,i⟩
theorem abd (e:Ex) (f:List aY) (b:List bP) (C:e.k=5) (mV mZ:List (ByteArray × Value)) (I y B:Nat) (at_:List ByteArray) (A:Option Addr) (c:Nat) (cs:List Value) (w:World) (hP:PM e) (hI:∀ a∈e.ar,PX f b mV mZ I y a) (an:∀ d∈b,d.loops.length<=1048576) (hx:aQ w B e cs) (hw:RX w B I y mV mZ f b) (ha:at_.length<=maxLen) (ae:dB w B A at_) (hc:at_.length<=c) (hB:B<=w.heap.size) :
  CS 218 #[.agg #[.map (some I),.map (some y)],.agg cs.toArray,bi A at_.length c] w (.tuple #[be bf (e.kind f b at_).1,be bf (e.kind f b at_).2]):=by
 have a7:=qh hx;obtain⟨hn,hs,hl,a4,hx,hr,hi⟩:=hx;rename_i A1 c1 A2 K cs;have HK:=qh (show e.kind f b at_=(match EF b e.nm at_ with
   | none=>(0,5)
   | some at'=>MP f b e.ar at' e.op) by rw[zy,if_neg (by omega),if_neg (by omega),if_neg (by omega),if_pos C];rfl)
 have a1:(e.k == 1)=false:=by rw[C];rfl
 have a2:(e.k == 2)=false:=by rw[C];rfl
 have bd:(e.k == 3)=false:=by rw[C];rfl
 have a3:(e.k == 5)=true:=by rw[C];rfl
 have WA:=qh hn;have Z:=qh hw;have r:=qh (bm ha (bm ae (bm hc hB)));have HN:=qh (Ug hw.nn e.nm at_);have HP:=qh (bm (hP.op5 C) (hP.a5 C));have HR:=qh (bm hr hi);have HI:=qh hI;have WE:=qh an;obtain⟨i0,aq,ao,ar,ap⟩:=info_parts zA;clear hx hr hi hw ae hB C hI hP an;show Calls Tryz.prog 218 #[.agg #[.map (some I),.map (some y)],.agg (BC e A1 c1 A2 e.ar.length K),bi A at_.length c] w _;go_enter Tryz.func218,Tryz.ntmps218;go_upto_region 1 with (fail);obtain⟨W,hW⟩:=aH (((w.alloc (.cells #[.map (some I),.map (some y)] 162 (0,0))).alloc (.cells (BC e A1 c1 A2 e.ar.length K) 67 (0,0))));have G:EG w W:=by rw[hW];exact (((Below.refl _ w).alloc (bn _) _).alloc (by simp) _)
 have B0:ag W (w.heap.size) 162 #[.map (some I),.map (some y)]:=by
  rw[hW];have:=ag.new w 162 #[.map (some I),.map (some y)];have:=this.alloc (.cells (BC e A1 c1 A2 e.ar.length K) 67 (0,0));exact this
 have B1:ag W (w.heap.size+1) 67 (BC e A1 c1 A2 e.ar.length K):=by
  rw[hW];have:=ag.new (w.alloc (.cells #[.map (some I),.map (some y)] 162 (0,0))) 67 (BC e A1 c1 A2 e.ar.length K)
  rwa [World.size_alloc] at this
 have aM:W.heap.size=w.heap.size+2:=by rw[hW];simp
 rw[<- hW];clear hW aM;obtain⟨iK,iL,iM,iQ,iR,iT,iU,iC⟩:=ag.c8 B1;have WB:=qh (Z.o.n.below G Z.o.n.lt);have Y:W.cell? ⟨w.heap.size,1,none⟩=some (.map (some y)):=B0.cell 1;rcases HN.o with ⟨E,hf⟩ | ⟨d,ds,E,hd,ak,hf⟩
 .skip
  have ab:(Instr.lookup 160 (.map (some y)) (bh e.nm) true).run Tryz.prog W = .ok (.tuple #[.agg #[bh ⟨#[]⟩,bi none 0 0],.bool false]) W:=by
   have h:=WB.o.look Tryz.underlying160 (rV W) WA.o;rw[E] at h;exact h
  have HF:=qh hf;clear hf E;go_upto_region 15 with (fail);obtain⟨W2,p⟩:=aH (W.alloc (.cells #[bh ⟨#[]⟩,bi none 0 0] 184 (0,0)));have t:EG W W2:=p▸(Below.refl _ W).alloc (bn _) _;have m:=G.trans (t.mono G.size);have B2:ag W2 W.heap.size 184 #[bh ⟨#[]⟩,bi none 0 0]:=p▸ag.new W _ _;rw[<- p];clear p ab;have Q:=qh (show e.kind f b at_=(0,5) by rw[HK.o,HF.o]);clear t B2 B0 B1;go_wp2_with (fail);go_ret2;exact⟨by rw[Q.o];rfl,m⟩
 .obtain⟨⟨A',c',rfl,MK,a9⟩,bc,ac,aX⟩:=hd;have M:=qh (bm MK (bm ac (WE.o d ak)));clear MK ac aX ak;have ab:(Instr.lookup 160 (.map (some y)) (bh e.nm) true).run Tryz.prog W = .ok (.tuple #[.agg #[bh d.nm,bi A' d.loops.length c'],.bool true]) W:=by
   have h:=WB.o.look Tryz.underlying160 (rV W) WA.o;rw[E] at h;exact h
  have HF:=qh hf;clear hf E;go_upto_region 15 with (fail);obtain⟨W2,p⟩:=aH (W.alloc (.cells #[bh d.nm,bi A' d.loops.length c'] 184 (0,0)));have t:EG W W2:=p▸(Below.refl _ W).alloc (bn _) _;have m:=G.trans (t.mono G.size);have B2:ag W2 W.heap.size 184 #[bh d.nm,bi A' d.loops.length c']:=p▸ag.new W _ _;rw[<- p];clear p ab;obtain⟨q,hq⟩:=af (og d.loops at_);have HQ:=qh hq;have aE:=qh (show Calls Tryz.prog 245 #[bi A' d.loops.length c',bi A at_.length c] W2 λ e s=>e = bj (.bool q)/\EG W2 s by
   have h:=yc d.loops at_ A' c' A c B W2 M.o.2.1 r.o.1 (M.o.1.below (m.mono r.o.2.2.2)) (r.o.2.1.below (m.mono r.o.2.2.2)) r.o.2.2.1 (bl r.o.2.2.2 m.size);rw[hq] at h;exact h)
  have B0:=B0.below t B0.lt;have B1:=B1.below t B1.lt;clear hq t iK iL iM iQ iR iT iU iC Y;obtain⟨iK,iL,iM,iQ,iR,iT,iU,iC⟩:=ag.c8 B1;obtain⟨xO,xP⟩:=ag.c2 B2;go_wp2_with fail;refine aE.o.mono ?_;rintro en W9 ⟨rfl,jl⟩;have S:=m.trans (jl.mono m.size);have B0:=B0.below jl B0.lt;have B1:=B1.below jl B1.lt;have B2:=B2.below jl B2.lt;clear jl xO xP iK iL iM iQ iR iT iU iC;cases q
  .have Q:=qh (show e.kind f b at_=(0,5) by rw[HK.o,HF.o,HQ.o];rfl);clear B0 B1 B2;go_wp2_with fail;go_ret2;exact⟨by rw[Q.o];rfl,S⟩
  .have L:=S.mono r.o.2.2.2;have h1:0<e.ar.length:=by have:=HP.o.2;omega
   obtain⟨ad,ci,rfl,l,X,H⟩:=aQ.arg (HR.o.1.below L) (λ i h=>(HR.o.2 i h).keep L) h1;obtain⟨a,P⟩:=af (e.ar[0]);have al:a∈e.ar:=by rw[<- P];exact bB h1
   have R:e.ar = [a]:=by have h:=Xo e.ar HP.o.2 h1;rwa [P] at h
   have Q:=qh (show e.kind f b at_=if (a.kind f b (d.loops ++ [d.nm])).2≠0 then (0,(a.kind f b (d.loops ++ [d.nm])).2) else IA e.op (a.kind f b (d.loops ++ [d.nm])).1 by
    rw[HK.o,HF.o,HQ.o];show MP f b e.ar (d.loops ++ [d.nm]) e.op=_;rw[R,MP])
   obtain⟨g,E⟩:=af (a.kind f b (d.loops ++ [d.nm]));obtain⟨g1,g2⟩:=g;have V:=qh E;rw[P] at X;have aD:=X;obtain⟨bb,a0,a6,a8,aw,aL,ax⟩:=X;rename_i A3 c3 A4 c4 a5;have k:∀ j u,(az a A3 c3 A4 c4)[j]?=some u->W9.cell? (ad.add j)=some u:=λ j u N=>by have h:=H j u N;rwa [bS,mf] at h
   have qJ:W9.cell? (ad)=some (be bf a.k):=k 0 _ rfl;have rU:W9.cell? ⟨(ad).block,(ad).off+1,none⟩=some (be bf a.op):=k 1 _ rfl;have x9:W9.cell? ⟨(ad).block,(ad).off+2,none⟩=some (bh a.nm):=k 2 _ rfl;have AP:W9.cell? ⟨(ad).block,(ad).off+3,none⟩=some (be bf a.v.k):=k 3 _ rfl;have AQ:W9.cell? ⟨(ad).block,(ad).off+4,none⟩=some (be bf a.v.n):=k 4 _ rfl;have AU:W9.cell? ⟨(ad).block,(ad).off+5,none⟩=some (bh a.v.s):=k 5 _ rfl;have AV:W9.cell? ⟨(ad).block,(ad).off+6,none⟩=some (bi A3 a.v.l.length c3):=k 6 _ rfl;have AZ:W9.cell? ⟨(ad).block,(ad).off+7,none⟩=some (bi A4 a.ar.length c4):=k 7 _ rfl;clear aw aL ax H P E R;clear h1 k HR;have tq:=qh aD;obtain⟨aA,Y⟩:=ag.c2 B0;have iC:W9.cell? ⟨w.heap.size+1,7,none⟩=some (bi (some ad) 1 K):=by have h:=B1.cell 7;rwa [show ((BC e A1 c1 (some ad) e.ar.length K):Array Value)[7]?=some (bi (some ad) 1 K) from by rw[HP.o.2];rfl] at h
   obtain⟨xO,xP⟩:=ag.c2 B2;have O:=qh (show ∀ w',EG W9 w'->w'.cell? ⟨w.heap.size,0,none⟩=some (.map (some I))/\w'.cell? ⟨w.heap.size,1,none⟩=some (.map (some y))/\w'.cell? ⟨w.heap.size+1,7,none⟩=some (bi (some ad) 1 K)/\w'.cell? ⟨W.heap.size,0,none⟩=some (bh d.nm)/\w'.cell? ⟨W.heap.size,1,none⟩=some (bi A' d.loops.length c')/\w'.cell? ad=some (be bf a.k)/\w'.cell? ⟨ad.block,ad.off+1,none⟩=some (be bf a.op)/\w'.cell? ⟨ad.block,ad.off+2,none⟩=some (bh a.nm)/\w'.cell? ⟨ad.block,ad.off+3,none⟩=some (be bf a.v.k)/\w'.cell? ⟨ad.block,ad.off+4,none⟩=some (be bf a.v.n)/\w'.cell? ⟨ad.block,ad.off+5,none⟩=some (bh a.v.s)/\w'.cell? ⟨ad.block,ad.off+6,none⟩=some (bi A3 a.v.l.length c3)/\w'.cell? ⟨ad.block,ad.off+7,none⟩=some (bi A4 a.ar.length c4)/\EG W9 w' from λ w' l=>⟨Below.cell_of l aA,Below.cell_of l Y,Below.cell_of l iC,Below.cell_of l xO,Below.cell_of l xP,Below.cell_of l qJ,Below.cell_of l rU,Below.cell_of l x9,Below.cell_of l AP,Below.cell_of l AQ,Below.cell_of l AU,Below.cell_of l AV,Below.cell_of l AZ,l⟩);have D:EG W9 W9:=Below.refl _ _;have Xp:∀ o,EG W9 (W9.alloc o).drew:=λ o=>(D.alloc (bn _) _).drew;have J:B<=W9.heap.size:=bl r.o.2.2.2 S.size;have aR:=qh (HI.o a al);have K1:=qh (show ∀ w',EG W9 w'->Calls Tryz.prog 38 #[bi A' d.loops.length c'] w' λ en s=>∃ v,en = bj v/\s.ownsRow W9.heap.size 9 1 v d.loops.length (iZ d.loops)/\EG W9 s/\EG w' s from λ w' l =>
    (cloneS d.loops A' c' B w' (M.o.1.below (L.trans (l.mono J))) (by have:=M.o.2.2;omega)).mono λ _ _ ⟨v,he,ho,C⟩=>⟨v,he,own_base ho l.size,l.trans (C.mono l.size),C⟩)
   have K3:=qh (show ∀ w' g z,EG W9 w'->w'.ownsRow W9.heap.size 9 1 (bi (some ⟨g,0,none⟩) (d.loops.length+1) z) (d.loops.length+1) (iZ d.loops ++ [bh d.nm])->Calls Tryz.prog 218 #[.agg #[.map (some I),.map (some y)],.agg (BC a A3 c3 A4 a.ar.length c4),bi (some ⟨g,0,none⟩) (d.loops.length+1:Nat) z] w' λ en s=>en = bj (.tuple #[be bf g1,be bf g2])/\EG W9 s from by
    intro w' g z l ho;have ba:=L.trans (l.mono J);have ay:=S.trans (l.mono S.size);have x:(d.loops ++ [d.nm]).length=d.loops.length+1:=by simp
    have h:=aR.o w'.heap.size (d.loops ++ [d.nm]) (some ⟨g,0,none⟩) z _ w' ((tq.o.keep (l.mono J)).up (bl J l.size)) ((Z.o.keep ay r.o.2.2.2).up (bl J l.size)) (by rw[x];have:=M.o.2.2;unfold maxLen;omega) (by rw[dB,IB,x];exact Reads.fM ho) (by rw[x];exact abb ho) (bn _);rw[x,V.o] at h;exact h.mono λ _ _ ⟨he,C⟩=>⟨he,l.trans (C.mono l.size)⟩)
   clear al;go_upto_region 17 with (fail);go_region_held3 (λ w'=>w'.cell? ⟨w.heap.size,0,none⟩=some (.map (some I))/\w'.cell? ⟨w.heap.size,1,none⟩=some (.map (some y))/\w'.cell? ⟨w.heap.size+1,7,none⟩=some (bi (some ad) 1 K)/\w'.cell? ⟨W.heap.size,0,none⟩=some (bh d.nm)/\w'.cell? ⟨W.heap.size,1,none⟩=some (bi A' d.loops.length c')/\w'.cell? ad=some (be bf a.k)/\w'.cell? ⟨ad.block,ad.off+1,none⟩=some (be bf a.op)/\w'.cell? ⟨ad.block,ad.off+2,none⟩=some (bh a.nm)/\w'.cell? ⟨ad.block,ad.off+3,none⟩=some (be bf a.v.k)/\w'.cell? ⟨ad.block,ad.off+4,none⟩=some (be bf a.v.n)/\w'.cell? ⟨ad.block,ad.off+5,none⟩=some (bh a.v.s)/\w'.cell? ⟨ad.block,ad.off+6,none⟩=some (bi A3 a.v.l.length c3)/\w'.cell? ⟨ad.block,ad.off+7,none⟩=some (bi A4 a.ar.length c4)/\EG W9 w')
    (first | exact O.o _ D | exact O.o _ D.drew | exact O.o _ n | exact O.o _ aa | exact O.o _ T | exact O.o _ (n.alloc (bl D.size n.size) _) | exact O.o _ (Xp _))
    (first
     | (go_at_call 38;(with_reducible refine (K1.o _ D.drew).mono ?_);rintro e1 w1 ⟨v,rfl,F,n,vI⟩)
     | (go_at_call 38;(with_reducible refine (K1.o _ (Xp _)).mono ?_);rintro e1 w1 ⟨v,rfl,F,n,vI⟩;have av:=Below.cell_of (a:=⟨W9.heap.size,0,none⟩) (v:=bh d.nm) vI (by simp[go_sem]))
     | (refine step_append_lies _ rfl _ _ 22 rfl W9.heap.size 9 i0 (.string ByteArray.empty) 1 16 Tryz.underlying22 aq ao ar ap rfl (by decide) v d.loops.length (iZ d.loops) rfl (F.alloc _) ⟨w1.heap.size,0,none⟩ 1 1 [.string d.nm] rfl rfl (by intro j u hj;cases j <;> simp_all[go_sem]) (by intro u N;simp only[bq] at N;subst N;rfl) (by decide) (by have:=M.o.2.2;unfold maxLen;omega) (by have:=M.o.2.2;omega) (by have:=n.size;first | omega | (simp;omega)) _ rfl ?_;intro g z w2 am U _ _;have aa:=(n.alloc (bl D.size n.size) _).grown U (by have:=n.size;simp;omega) (λ g E=>(F.lt g E).1))
     | (refine step_append_lies _ rfl _ _ 22 rfl W9.heap.size 9 i0 (.string ByteArray.empty) 1 16 Tryz.underlying22 aq ao ar ap rfl (by decide) v d.loops.length (iZ d.loops) rfl F ⟨W9.heap.size,0,none⟩ 1 1 [.string d.nm] rfl rfl (by intro j u hj;cases j with | zero=>(have N:u = .string d.nm:=by simpa using hj.symm);subst N;exact av | succ j=>simp at hj) (by intro u N;simp only[bq] at N;subst N;rfl) (by decide) (by have:=M.o.2.2;unfold maxLen;omega) (by have:=M.o.2.2;omega) (by have:=n.size;first | omega | (simp;omega)) _ rfl ?_;intro g z w2 am U _ _;have aa:=n.grown U n.size (λ g E=>(F.lt g E).1))
     | (go_at_call 218;(with_reducible refine (K3.o _ _ _ aa am).mono ?_);rintro e3 w3 ⟨rfl,T⟩))
   all_goals
    have DK:=S.trans (T.mono S.size);by_cases h0:g2=0;rotate_left
    .have bg:(g2 != 0)=true:=by simpa using h0
     have IC:=qh (show e.kind f b at_=(0,g2) by rw[Q.o,V.o,if_pos h0]);clear h0 O HK Q;go_wp2_with fail;go_ret2;exact⟨by rw[IC.o];rfl,DK⟩
    .subst h0;have IC:=qh (show e.kind f b at_=IA e.op g1 by rw[Q.o,V.o];exact if_neg (λ h=>h rfl));have aZ:w3.cell? ⟨w.heap.size+1,1,none⟩=some (be bf e.op):=Below.cell_of T (B1.cell 1);clear O HK Q;go_wp2_with fail;refine (Jz e.op g1 w3 HP.o.1.1 HP.o.1.2).mono ?_;rintro en w4 ⟨rfl,rfl⟩;go_wp2_with fail;go_ret2;exact⟨by rw[IC.o];try rfl,DK⟩
theorem Uh (f:List aY) (b:List bP) (l k:List (ByteArray × Value)) (m j:Nat) (s:∀ d∈b,d.loops.length<=1048576) (e:Ex):e.fault=0->PX f b l k m j e:=by
 induction e using Ex.ind with
 | h e ih =>
  intro t B at_ A c cs w o r p g n q;have P:=lQ (tH t);have u:=λ a h=>ih a h (xq t a h);have i:=P.k;obtain i | i | i | i | i:e.k=1\/e.k=2\/e.k=3\/e.k=4\/e.k=5:=by omega
  .exact aa6 e f b i l k m j B at_ A c cs w o r p g n q
  .exact aa8 e f b i l k m j B at_ A c cs w o r p g n q
  .exact aa7 e f b i l k m j B at_ A c cs w o r p g n q
  .exact aba e f b i l k m j B at_ A c cs w P u o r p g n q
  .exact abd e f b i l k m j B at_ A c cs w P u s o r p g n q
def vT (e:Ex) (cells:List aY) (loops:List bP) (at_:List ByteArray):Int × Int:=
 if dZ e≠0 then (0,dZ e) else if gG cells loops≠0 then (0,gG cells loops) else if jW loops at_=false then (0,9) else e.kind cells loops at_
theorem JB {e:Ex} (h:dZ e=0):e.fault=0:=by
 unfold dZ at h;split at h
 .exact absurd h (by decide)
 .exact h
theorem PZ (e:Ex) (b:List aY) (a:List bP) (Y V:Option Addr) (cc cn B:Nat) (at_:List ByteArray) (A:Option Addr) (c:Nat) (cs:List Value) (w:World) (hx:aQ w B e cs) (hC:fJ w B Y b) (hN:qK w B V a) (ha:at_.length<=maxLen) (M:dB w B A at_) (hc:at_.length<=c) (hB:B<=w.heap.size) (hp:e.parts<=1000000) (P:∀ d∈a,d.loops.length<=1048576) (hs:∀ s∈at_,s.size<=maxLen) :
  CS 178 #[.agg cs.toArray,bi Y b.length cc,bi V a.length cn,bi A at_.length c] w (.tuple #[be bf (vT e b a at_).1,be bf (vT e b a at_).2]):=by
 have HX:=qh hx;have D:=qh (bm hC hN);have f:=qh (bm ha (bm M (bm hc hB)));have WE:=qh P;obtain⟨hn,am,hl,al,hx,hr,hi⟩:=hx;rename_i A1 U X Z cs;have HS:=qh hs;clear hs hx hr hi hC hN M hB P;show Calls Tryz.prog 178 #[.agg (BC e A1 U X e.ar.length Z),bi Y b.length cc,bi V a.length cn,bi A at_.length c] w _;go_enter Tryz.func178,Tryz.ntmps178;go_upto_region 1 with (fail);obtain⟨W,H⟩:=aH ((w.alloc (.cells (BC e A1 U X e.ar.length Z) 67 (0,0))));have k:EG w W:=by rw[H];exact ((Below.refl _ w).alloc (bn _) _)
 have B0:ag W (w.heap.size) 67 (BC e A1 U X e.ar.length Z):=by
  rw[H];have:=ag.new w 67 (BC e A1 U X e.ar.length Z);exact this
 have ac:W.heap.size=w.heap.size+1:=by rw[H];simp
 rw[<- H];clear H ac;obtain⟨iK,iL,iM,iQ,iR,iT,iU,iC⟩:=ag.c8 B0;go_wp2_with fail;obtain⟨f1,x⟩:=af (dZ e);have K:=qh x;refine (nY e B _ W (HX.o.keep (k.mono f.o.2.2.2)) (bl f.o.2.2.2 k.size) (by omega)).mono ?_;rw[x];rintro T j ⟨rfl,u⟩;have Q:=k.trans (u.mono k.size);have B0:=B0.below u B0.lt;clear iK iL iM iQ iR iT iU iC u x;by_cases h0:f1=0;rotate_left
 .have bg:(f1 != 0)=true:=by simpa using h0
  have y:=qh (show vT e b a at_=(0,f1) by unfold vT;rw[K.o,if_pos h0]);clear h0;go_wp2_with fail;go_ret2;exact⟨by rw[y.o];try rfl,Q⟩
 subst h0;have ae:=bl f.o.2.2.2 Q.size;obtain⟨f2,L⟩:=af (gG b a);have l:=qh L;have N:=Q.mono f.o.2.2.2;clear L;go_upto_region 4 with (fail);have J:=qh (ML b a Y cc V cn B j (D.o.1.keep N) (D.o.2.keep N) ae);go_wp2_with fail;refine J.o.mono ?_;rintro T v ⟨⟨r,rfl,R,o⟩,t⟩;rw[l.o] at R;subst R;have O:=qh o;have g:=Q.trans (t.mono Q.size);have B0:=B0.below t B0.lt;clear o t J;by_cases h0:r=0;rotate_left
 .have bg:(r != 0)=true:=by simpa using h0
  have y:=qh (show vT e b a at_=(0,r) by unfold vT;rw[K.o,l.o,if_neg (by decide),if_pos h0]);clear h0;go_wp2_with fail;go_ret2;exact⟨by rw[y.o];try rfl,g.alloc g.size _⟩
 subst h0;obtain⟨mV,mZ,I,S,F,G⟩:=O.o rfl;have z:=qh (show RX v B (j.heap.size+1) (j.heap.size+1+1) mV mZ b a from ⟨I,F,S,G⟩);clear I S F G O;obtain⟨q,hq⟩:=af (jW a at_);have HQ:=qh hq;obtain⟨W3,n⟩:=aH (v.alloc (.cells #[.map (some (j.heap.size+1)),.map (some (j.heap.size+1+1))] 162 (0,0)));have m:EG v W3:=n▸(Below.refl _ v).alloc (bn _) _;have B3:ag W3 v.heap.size 162 #[.map (some (j.heap.size+1)),.map (some (j.heap.size+1+1))]:=n▸ag.new v _ _;have h:=g.trans (m.mono g.size);have B0:=B0.below m B0.lt;have ad:=bl f.o.2.2.2 g.size;have E:=bl f.o.2.2.2 h.size;have z:=qh (z.o.keep m ad);have p:=qh (yE at_ A c (j.heap.size+1) (j.heap.size+1+1) B mZ a W3 f.o.1 HS.o (f.o.2.1.below (h.mono f.o.2.2.2)) f.o.2.2.1 E z.o.n z.o.nn);rw[hq] at p;clear hq;go_wp2_with fail;rw[<- n];clear n m;refine p.o.mono ?_;rintro T W4 ⟨rfl,i⟩;have C:=h.trans (i.mono h.size);have ak:=bl f.o.2.2.2 C.size;have z:=qh (z.o.keep i E);have B0:=B0.below i B0.lt;have B3:=B3.below i B3.lt;clear p i;cases q
 .have y:=qh (show vT e b a at_=(0,9) by unfold vT;rw[K.o,l.o,if_neg (by decide),if_neg (by decide),if_pos HQ.o]);go_wp2_with fail;go_ret2;exact⟨by rw[y.o];try rfl,C⟩
 .have y:=qh (show vT e b a at_=e.kind b a at_ by unfold vT;rw[K.o,l.o,if_neg (by decide),if_neg (by decide),if_neg (by rw[HQ.o];decide)]);have ab:=qh (Uh b a mV mZ (j.heap.size+1) (j.heap.size+1+1) WE.o e (JB K.o) B at_ A c _ W4 (HX.o.keep (C.mono f.o.2.2.2)) z.o f.o.1 (f.o.2.1.below (C.mono f.o.2.2.2)) f.o.2.2.1 ak);obtain⟨iK,iL,iM,iQ,iR,iT,iU,iC⟩:=ag.c8 B0;obtain⟨RY,RZ⟩:=ag.c2 B3;clear B0 B3;go_wp2_with fail;refine ab.o.mono ?_;rintro T W5 ⟨rfl,aa⟩;clear iK iL iM iQ iR iT iU iC RY RZ;go_wp2_with fail;go_ret2;exact⟨by rw[y.o];try rfl,C.trans (aa.mono C.size)⟩
end Go.Proofs.YtcnagconagpkcaaGreatDoor
namespace Go.Proofs.YtcnagconagpkcaaGreatDoor
open Go.RowKit
def cmpL:List Int->List Int->Int
 | [],[]=>0
 | [],_ :: _=>-1
 | _ :: _,[]=>1
 | a :: l,b :: r=>if mQ a b=0 then cmpL l r else mQ a b
theorem Ui {a b:List Int} {k:Nat} (c:k<a.length) (d:k<b.length) (h:mQ a[k] b[k]=0):cmpL (a.drop k) (b.drop k)=cmpL (a.drop (k+1)) (b.drop (k+1)):=by
 rw[bt c,bt d];simp[cmpL,h]
theorem Uj {a b:List Int} {k:Nat} (c:k<a.length) (d:k<b.length) (h:mQ a[k] b[k]≠0):cmpL (a.drop k) (b.drop k)=mQ a[k] b[k]:=by
 rw[bt c,bt d];simp[cmpL,h]
theorem Ho (l:List Int) (h:0<l.length):cmpL [] l = -1:=by cases l <;> simp_all[cmpL]
theorem EH (l:List Int) (h:0<l.length):cmpL l []=1:=by cases l <;> simp_all[cmpL]
theorem Xr {b a:List Int} {k:Nat} (d:k<=b.length) (c:k<=a.length) (h:¬ (k<b.length/\k<a.length)):cmpL (b.drop k) (a.drop k)=mQ b.length a.length:=by
 by_cases h1:k<b.length
 .rw[show a.drop k = [] from br (by omega),EH _ (by simp;omega)];simp only[mQ];rw[if_neg (by omega),if_pos (by omega)]
 .rw[show b.drop k = [] from br (by omega)];by_cases h2:k<a.length
  .rw[Ho _ (by simp;omega)];simp only[mQ];rw[if_pos (by omega)]
  .rw[show a.drop k = [] from br (by omega)];simp only[mQ,cmpL];rw[if_neg (by omega),if_neg (by omega)]
theorem Uk (A B:Option Addr) (n c m d B1 B2:Nat) (b g:List Int) (w:World) (N:n<=maxLen) (R:m<=maxLen)
  (o:Reads w B1 1 A n (bF bf b)) (q:Reads w B2 1 B m (bF bf g)) (s:B1<=w.heap.size) (p:B2<=w.heap.size) :
  CS 252 #[bi A n c,bi B m d] w (be bf (cmpL b g)):=by
 have C:=o.more s;have F:=q.more p;clear o q s p;have z:n=b.length:=by have:=C.1;rw[mX] at this;omega
 have D:m=g.length:=by have:=F.1;rw[mX] at this;omega
 subst z D;unfold maxLen at N R;go_enter Tryz.func252,Tryz.ntmps252;go_wp2;go_loopw [5] (λ i wr=>∃ k:Nat,k<=b.length/\k<=g.length/\i = be bf k/\EG w wr/\cmpL b g=cmpL (b.drop k) (g.drop k)) (λ i _=>b.length - (intOf i).toNat)
 case atStart=>exact⟨0,bA _,bA _,rfl,Below.refl _ _,rfl⟩
 case round =>
  obtain⟨k,E,G,rfl,j,J⟩:=hrel;have t:=qh J;clear J;by_cases hlt:k<b.length/\k<g.length
  .obtain⟨r,x⟩:=hlt;obtain⟨T,u,rfl,_,M,Q⟩:=(C.below j).at_ r;obtain⟨S,v,rfl,_,I,P⟩:=(F.below j).at_ x;obtain⟨_,rfl⟩:=kD _ _ _ _ M;obtain⟨_,rfl⟩:=kD _ _ _ _ I;clear M I C F;by_cases hz:mQ b[k] g[k]=0
   .have l:=Ui r x hz;have a:(mQ b[k] g[k] != 0)=false:=by simp[hz]
    have y:=qh l;have H:=qh a;clear l hz a;go_wp2;go_quiet ((go_at_call 251;exact Calls.quiet_of_same (Iw _ _ _)));have a:=H.o;go_wp2;go_roundw
    case rel=>exact⟨k+1,by omega,by omega,by go_num,j.drewN _,by rw[t.o,y.o]⟩
    case measure=>simp[intOf];omega
   .have l:=Uj r x hz;have a:(mQ b[k] g[k] != 0)=true:=by simp[hz]
    have y:=qh l;have H:=qh a;clear l hz a;go_wp2;go_quiet ((go_at_call 251;exact Calls.quiet_of_same (Iw _ _ _)));have a:=H.o;go_wp2;go_ret;exact⟨ai (by rw[t.o,y.o]),j.drewN _⟩
  .have L:=Xr E G hlt;have K:=qh L;clear L;have f:k<b.length->¬ k<g.length:=λ h O=>hlt ⟨h,O⟩;clear hlt;by_cases r:k<b.length
   .have x:=f r;clear f;go_wp2_with (go_at_call 251;refine (zt _ _ _).mono ?_;rintro e w' ⟨rfl,rfl⟩);go_ret;exact⟨ai (by rw[t.o,K.o]),j⟩
   .clear f;go_wp2_with (go_at_call 251;refine (zt _ _ _).mono ?_;rintro e w' ⟨rfl,rfl⟩);go_ret;exact⟨ai (by rw[t.o,K.o]),j⟩
theorem Ul (a b:Int):mQ a b = -mQ b a:=by unfold mQ;split <;> split <;> (try split) <;> omega
theorem xu (a:Int):mQ a a=0:=by unfold mQ;simp
theorem Bl {a b:Int} (h:mQ a b=0):a=b:=by unfold mQ at h;split at h <;> (try split at h) <;> omega
theorem EI {a b:Int} (h:a<b):mQ a b = -1:=by unfold mQ;rw[if_pos h]
theorem Bo:∀ {a b:List Int},cmpL a b=0->a=b
 | [],[],_=>rfl
 | [],_ :: _,h=>by simp[cmpL] at h
 | _ :: _,[],h=>by simp[cmpL] at h
 | a :: l,b :: r,h=>by
  unfold cmpL at h;split at h
  .rename_i c;rw[Bl c,Bo h]
  .omega
theorem Bq:∀ a:List Int,cmpL a a=0
 | []=>rfl
 | a :: l=>by unfold cmpL;rw[if_pos (xu a)];exact Bq l
def zB (l:List UInt8):List Int:=l.map λ c=>(c.toNat:Int)
theorem Um {a b:List UInt8} (h:zB a=zB b):a=b:=by
 induction a generalizing b with
 | nil=>cases b <;> simp_all[zB]
 | cons x l ih =>
  cases b with
  | nil=>simp[zB] at h
  | cons y r =>
   simp only[zB,bE,List.cons.injEq] at h;obtain⟨d,c⟩:=h;have e:x=y:=bT.1 (by omega);rw[ih c,e]
theorem JC:∀ a b:List UInt8,bv a b=cmpL (zB a) (zB b)
 | [],[]=>rfl
 | [],_ :: _=>rfl
 | _ :: _,[]=>rfl
 | a :: l,b :: r=>by
  unfold bv;simp only[zB,bE,cmpL];have d:=JC l r;simp only[zB] at d;by_cases h:a<b
  .have c:(a.toNat:Int)<b.toNat:=by have:=bw.1 h;omega
   rw[if_pos h,EI c];simp
  .by_cases h2:b<a
   .have c:(b.toNat:Int)<a.toNat:=by have:=bw.1 h2;omega
    rw[if_neg h,if_pos h2,Ul,EI c];simp
   .have e:a=b:=bT.1 (by have:=mt bw.2 h;have:=mt bw.2 h2;omega);subst e;rw[if_neg h,if_neg h,if_pos (xu _)];exact d
end Go.Proofs.YtcnagconagpkcaaGreatDoor
namespace Go.Proofs.YtcnagconagpkcaaGreatDoor
open Go.RowKit
attribute [local go_sem ↓] Go.wp_at_zero Go.wp_at_succ
structure jR where
 nm:ByteArray
 row:List Int
 v:Val
 asked:Bool
structure vJ where
 nm:ByteArray
 row:List Int
 nums:List Int
structure xw (w:World) (B:Nat) (d:jR) (cs:List Value):Prop where
 ex:∃ A1 c1 A2 c2,cs = [bh d.nm,bi A1 d.row.length c1,be bf d.v.k,be bf d.v.n,bh d.v.s,bi A2 d.v.l.length c2,.bool d.asked]/\Reads w B 1 A1 d.row.length (bF bf d.row)/\Reads w B 1 A2 d.v.l.length (bF bf d.v.l)
 h1:d.nm.size<=maxLen
 h2:d.row.length<=maxLen
 h3:d.v.s.size<=maxLen
 h4:d.v.l.length<=maxLen
structure Si (w:World) (B:Nat) (d:vJ) (cs:List Value):Prop where
 ex:∃ A1 c1 A2 c2,cs = [bh d.nm,bi A1 d.row.length c1,bi A2 d.nums.length c2]/\Reads w B 1 A1 d.row.length (bF bf d.row)/\Reads w B 1 A2 d.nums.length (bF bf d.nums)
 h1:d.nm.size<=maxLen
 h2:d.row.length<=maxLen
 h3:d.nums.length<=maxLen
theorem xw.keep {w w':World} {B:Nat} {d:jR} {cs:List Value} (h:xw w B d cs) (a:Below B w w'):xw w' B d cs:=by
 obtain⟨⟨b,j,i,l,e,c,n⟩,k,m,f,g⟩:=h;exact⟨⟨b,j,i,l,e,c.below a,n.below a⟩,k,m,f,g⟩
theorem Si.keep {w w':World} {B:Nat} {d:vJ} {cs:List Value} (h:Si w B d cs) (a:Below B w w'):Si w' B d cs:=by
 obtain⟨⟨b,i,g,k,e,c,m⟩,j,l,f⟩:=h;exact⟨⟨b,i,g,k,e,c.below a,m.below a⟩,j,l,f⟩
abbrev EJ:=au xw 7
abbrev JD:=au Si 3
theorem EJ.keep {w w':World} {B:Nat} {A:Option Addr} {l:List jR} (h:EJ w B A l) (a:Below B w w'):EJ w' B A l:=au.keep (λ _ _ h=>h.keep a) h a
theorem JD.keep {w w':World} {B:Nat} {A:Option Addr} {l:List vJ} (h:JD w B A l) (a:Below B w w'):JD w' B A l:=au.keep (λ _ _ h=>h.keep a) h a
def abe (row:List Int) (n:Nat):Int:=if row.length≠n then 3 else if row.any nX=true then 1 else 0
def agb (nm:ByteArray) (row:List Int) (nm':ByteArray) (row':List Int):Int:=
 if bv nm.data.toList nm'.data.toList=0 then cmpL row row' else bv nm.data.toList nm'.data.toList
def Sj (nm:ByteArray) (row:List Int) (nm':ByteArray) (row':List Int):Int:=if agb nm row nm' row'=0 then 6 else if agb nm row nm' row' = -1 then 7 else 0
def leO (p:Option Int) (a:Int):Bool:=match p with
 | some q=>decide (a<=q)
 | none=>false
def Xt:Option Int->List Int->Int
 | _,[]=>0
 | p,a :: r=>if nX a=true then 1 else if leO p a=true then 7 else Xt (some a) r
def Xu (cells:List aY) (prev:List jR) (b:jR):Int:=
 match cells.find? (λ c=>decide (c.nm=b.nm)) with
 | none=>5
 | some c=>if abe b.row c.loops.length≠0 then abe b.row c.loops.length else if di b.v≠0 then di b.v else if 1<b.v.k/\b.v.k≠c.kind then 8 else
  match prev.getLast? with
  | none=>0
  | some p=>Sj b.nm b.row p.nm p.row
def agd (loops:List bP) (prev:List vJ) (r:vJ):Int:=
 match loops.find? (λ n=>decide (n.nm=r.nm)) with
 | none=>5
 | some n=>if abe r.row n.loops.length≠0 then abe r.row n.loops.length else if Xt none r.nums≠0 then Xt none r.nums else
  match prev.getLast? with
  | none=>0
  | some p=>Sj r.nm r.row p.nm p.row
def JE (cells:List aY) (loops:List bP) (bounds:List jR) (rows:List vJ):Int:=
 if gG cells loops≠0 then gG cells loops else if 20000<bounds.length\/20000<rows.length then 2 else
 if gB (Xu cells) [] bounds≠0 then gB (Xu cells) [] bounds else gB (agd loops) [] rows
def Xv (w:World):Prop:=Lib.TabIs Tryz.prog w "internal/strconv.uint64pow10" .u64 Lib.pow10Tab
theorem Xv.below {w w':World} (h:Xv w) (a:EG w w'):Xv w':=aF h a
def Sl (nm:List UInt8) (row:List Int):List UInt8:=nm ++ row.flatMap (λ n=>32 :: Lib.itoa n)
def age (d:jR):ByteArray:=⟨(Sl d.nm.data.toList d.row).toArray⟩
def agf (d:vJ):ByteArray:=⟨(Sl d.nm.data.toList d.row).toArray⟩
inductive Hq {α:Type} (P:ByteArray->Value->α->Prop):List (ByteArray × Value)->List α->Prop
 | nil:Hq P [] []
 | cons {s:ByteArray} {v:Value} {a:α} {kv:List (ByteArray × Value)} {l:List α} (h:P s v a) (t:Hq P kv l):Hq P ((s,v) :: kv) (a :: l)
theorem Hq.imp {α:Type} {P Q:ByteArray->Value->α->Prop} (b:∀ s v a,P s v a->Q s v a):∀ {c:List (ByteArray × Value)} {l:List α},Hq P c l->Hq Q c l
 | _,_,.nil=>.nil
 | _,_,.cons h t=>.cons (b _ _ _ h) (t.imp b)
theorem Hq.len {α:Type} {P:ByteArray->Value->α->Prop}:∀ {a:List (ByteArray × Value)} {l:List α},Hq P a l->a.length=l.length
 | _,_,.nil=>rfl
 | _,_,.cons _ t=>by simp[t.len]
def adE (w:World) (B:Nat) (s:ByteArray) (v:Value) (d:jR):Prop:=s=age d/\∃ cs:List Value,v = .agg cs.toArray/\xw w B d cs
def rowP (w:World) (B:Nat) (s:ByteArray) (v:Value) (d:vJ):Prop:=s=agf d/\∃ A c,v = bi A d.nums.length c/\Reads w B 1 A d.nums.length (bF bf d.nums)/\d.nums.length<=maxLen
structure KvB (w:World) (B:Nat) (kv:List (ByteArray × Value)) (l:List jR):Prop where
 rel:Hq (adE w B) kv l.reverse
structure KvR (w:World) (B:Nat) (kv:List (ByteArray × Value)) (l:List vJ):Prop where
 rel:Hq (rowP w B) kv l.reverse
theorem KvB.len {w:World} {B:Nat} {a:List (ByteArray × Value)} {l:List jR} (h:KvB w B a l):a.length=l.length:=by rw[h.rel.len,bX]
theorem KvR.len {w:World} {B:Nat} {a:List (ByteArray × Value)} {l:List vJ} (h:KvR w B a l):a.length=l.length:=by rw[h.rel.len,bX]
theorem KvB.keep {w w':World} {B:Nat} {a:List (ByteArray × Value)} {l:List jR} (h:KvB w B a l) (d:Below B w w'):KvB w' B a l:=
 ⟨h.rel.imp λ _ _ _ ⟨c,cs,e,b⟩=>⟨c,cs,e,b.keep d⟩⟩
theorem KvR.keep {w w':World} {B:Nat} {a:List (ByteArray × Value)} {l:List vJ} (h:KvR w B a l) (f:Below B w w'):KvR w' B a l:=
 ⟨h.rel.imp λ _ _ _ ⟨e,A,c,g,b,d⟩=>⟨e,A,c,g,b.below f,d⟩⟩
theorem KvB.put {w:World} {B:Nat} {a:List (ByteArray × Value)} {l:List jR} (h:KvB w B a l) {d:jR} {cs:List Value} (b:xw w B d cs):KvB w B ((age d,.agg cs.toArray) :: a) (l ++ [d]):=
 ⟨by rw[b0];exact .cons ⟨rfl,cs,rfl,b⟩ h.rel⟩
theorem KvR.put {w:World} {B:Nat} {a:List (ByteArray × Value)} {l:List vJ} (h:KvR w B a l) {d:vJ} {A:Option Addr} {c:Nat} (b:Reads w B 1 A d.nums.length (bF bf d.nums)) (e:d.nums.length<=maxLen):KvR w B ((agf d,bi A d.nums.length c) :: a) (l ++ [d]):=
 ⟨by rw[b0];exact .cons ⟨rfl,A,c,rfl,b,e⟩ h.rel⟩
structure abh (w:World) (B gs m1 m2 m3 m4:Nat) (mV mZ Xw kv4:List (ByteArray × Value)) (cells:List aY) (loops:List bP) (lb:List jR) (lr:List vJ):Prop where
 blk:ag w gs 168 #[.map (some m1),.map (some m2),.map (some m3),.map (some m4)]
 ty:RX w B m1 m2 mV mZ cells loops
 m3m:aS w m3 Xw
 m4m:aS w m4 kv4
 kb:KvB w B Xw lb
 kr:KvR w B kv4 lr
 ne:gs≠m3/\gs≠m4/\m1≠m3/\m1≠m4/\m2≠m3/\m2≠m4/\m3≠m4/\B<=m3/\B<=m4/\B<=w.heap.size
theorem abh.keep {w w':World} {B u t o p s:Nat} {r m v k:List (ByteArray × Value)} {i:List aY} {g:List bP} {q:List jR} {lr:List vJ} (h:abh w B u t o p s r m v k i g q lr) (j:EG w w'):abh w' B u t o p s r m v k i g q lr:=by
 obtain⟨a,b,c,d,e,f,n⟩:=h;have l:=n.2.2.2.2.2.2.2.2.2;exact⟨a.below j a.lt,b.keep j l,c.below j c.lt,d.below j d.lt,e.keep (j.mono l),f.keep (j.mono l),n.1,n.2.1,n.2.2.1,n.2.2.2.1,n.2.2.2.2.1,n.2.2.2.2.2.1,n.2.2.2.2.2.2.1,n.2.2.2.2.2.2.2.1,n.2.2.2.2.2.2.2.2.1,bl l j.size⟩
theorem tN {B:Nat} {w w':World} {a:Option Nat} (d:w.grownBy w' a) (b:B<=w.heap.size) (c:∀ k,a=some k->B<=k):Below B w w':=(Below.refl B w).grown d b c
theorem aS.put {w:World} {b:Nat} {c:List (ByteArray × Value)} (h:aS w b c) {t e:TypeId} (l:Tryz.prog.underlying t=some (.map 9 e)) (f:c.length<maxLen) {s:ByteArray} (k:s.size<=maxLen) (val:Value) :
  ∃ w',(Instr.mapUpdate t (.map (some b)) (bh s) val).run Tryz.prog w = .ok () w'/\aS w' b ((s,val) :: c)/\w.grownBy w' (some b):=by
 obtain⟨D,m,n,i⟩:=h.ex;obtain⟨w',a,j,g⟩:=m.update (Maps.string_keyed Tryz.underlying9) l f (key:=.string s) (val:=val) (keyS k) (d:=.held val) (ps:=[]) rfl;exact⟨w',a,aS.store n i j,g⟩
structure SiR (en:Ending) (w w':World) (B:Nat) (cells:List aY) (loops:List bP) (bounds:List jR) (rows:List vJ):Prop where
 ex:∃ p,en = bj (.tuple #[.pointer p,be bf (JE cells loops bounds rows)])/\(JE cells loops bounds rows=0->∃ gs m1 m2 m3 m4 mV mZ Xw kv4,p=some ⟨gs,0,none⟩/\abh w' B gs m1 m2 m3 m4 mV mZ Xw kv4 cells loops bounds rows/\w.heap.size<=m3/\w.heap.size<=m4/\w.heap.size<=gs)
 hb:EG w w'
theorem SiR.bad {d:Ending} {w w':World} {B:Nat} {c:List aY} {b:List bP} {a:List jR} {rows:List vJ} (h:JE c b a rows≠0) (e:d = bj (.tuple #[.pointer none,be bf (JE c b a rows)])) (g:EG w w'):SiR d w w' B c b a rows:=
 ⟨⟨none,e,λ f=>absurd f h⟩,g⟩
end Go.Proofs.YtcnagconagpkcaaGreatDoor
namespace Go.Proofs.YtcnagconagpkcaaGreatDoor
open Go.Deep Go.ChangeShapes Go.WideShapes Go.ChangeAt Go.RowKit Go.Joins
theorem Xx {H:Type} (d:DataW H):1<=Rows.uptoBulk d:=by
 cases d with
 | lit l=>cases l <;> simp[Rows.uptoBulk]
 | nil=>simp[Rows.uptoBulk]
 | ptr d=>simp[Rows.uptoBulk]
 | slice a b=>simp[Rows.uptoBulk]
 | agg l=>simp[Rows.uptoBulk]
 | iface n d=>simp[Rows.uptoBulk]
 | map l=>simp[Rows.uptoBulk]
 | held v=>simp[Rows.uptoBulk]
theorem MS {H:Type}:∀ l:List (DataW H),Rows.uptoBulkAll l=(l.map Rows.uptoBulk).sum
 | []=>by simp[Rows.uptoBulkAll]
 | d :: r=>by rw[Rows.uptoBulkAll,MS r];simp
theorem zC {H:Type}:∀ l:List (DataW H),l.length<=Rows.uptoBulkAll l
 | []=>by simp
 | d :: r=>by
  have:=zC r;have:=Xx d;rw[Rows.uptoBulkAll,b1];omega
theorem Xy {f g:Nat->Nat}:∀ l:List Nat,(∀ i∈l,f i<=g i)->(l.map f).sum<=(l.map g).sum
 | [],_=>by simp
 | i :: r,h=>by
  have b:=Xy r (λ j a=>h j (List.mem_cons_of_mem _ a));have c:=h i (List.mem_cons_self ..);simp only[bE,List.sum_cons];omega
theorem zD {size:Nat} {f:Nat->List Value}:∀ {n:Nat},(∀ i,i<n->(f i).length=size)->((bp n).flatMap f).length=n*size
 | 0,_=>by simp
 | n+1,h=>by
  rw[b2,b3,b4,zD (λ i a=>h i (by omega))];simp[h n (by omega),b5]
theorem Bv {size:Nat} {f:Nat->List Value}:∀ {n:Nat},(∀ i,i<n->(f i).length=size)->∀ i,i<n->(((bp n).flatMap f).drop (i*size)).take size=f i
 | n+1,h,i,hi=>by
  have b:=zD (λ j c=>h j (by omega)) (n:=n) (f:=f) (size:=size);rw[b2,b3];simp only[List.flatMap_cons,List.flatMap_nil,List.append_nil];by_cases hin:i<n
  .have a:i*size+size<=n*size:=by rw[<- b5];exact Nat.mul_le_mul_right _ hin
   rw[List.drop_append_of_le_length (by omega),List.take_append_of_le_length (by rw[List.length_drop];omega)];exact Bv (λ j c=>h j (by omega)) i hin
  .have e:i=n:=by omega
   subst e;rw[List.drop_append,b,Nat.sub_self,List.drop_zero,br (by omega),List.nil_append,List.take_of_length_le (by rw[h i hi];exact bn _)]
theorem abj {size:Nat} {f:Nat->List Value} {n:Nat} (h:∀ i,i<n->(f i).length=size) (a:0<size) {j:Nat} {u:Value} (d:((bp n).flatMap f)[j]?=some u):∃ i r,i<n/\r<size/\j=i*size+r/\(f i)[r]?=some u:=by
 have b:j<n*size:=by rw[<- zD h];exact (List.getElem?_eq_some_iff.1 d).1
 have c:j / size<n:=by rw[Nat.div_lt_iff_lt_mul a];exact b
 refine⟨j / size,j % size,c,bx _ a,by rw[bK];exact (b6 j size).symm,?_⟩;rw[<- Bv h _ c,List.getElem?_take,if_pos (bx _ a),List.getElem?_drop,bK,b6];exact d
section
variable {H:Type} {enc:TypeId × Value->H} {W:World}
theorem fK {α:Type} [Inhabited α] {Pd:World->Nat->α->List Value->Prop} {μ:α->Nat} {t e:TypeId} {size z:Nat} {cs:List Value} {x:DataW H × List MemPlace} (X:Tryz.prog.underlying t=some (.slice e)) (O:Tryz.prog.cellsOf e=size) (w:0<size)
  (G:∀ n s y,n<z->bk enc Tryz.prog W 0 (λ _=>true) true n e s=some y->∃ a:α,Pd W W.heap.size a s/\μ a<=Rows.uptoBulk y.1) (h:bk enc Tryz.prog W 0 (λ _=>true) true z t cs=some x) :
  ∃ (A:Option Addr) (l:List α) (c:Nat),cs = [bi A l.length c]/\au Pd size W W.heap.size A l/\l.length<=c/\(l.map μ).sum+1<=Rows.uptoBulk x.1/\l.length+1<=Rows.uptoBulk x.1:=by
 rcases DataW.trod_slice X h with ⟨rfl,rfl⟩ | ⟨a,len,L,d,C,n,rfl,rfl,rfl,-,P,Z,B,K,-,-⟩
 .exact⟨none,[],0,rfl,⟨by simp,[],Reads.none_,λ i o=>by cases o⟩,by simp,by simp[Rows.uptoBulk],by simp[Rows.uptoBulk]⟩
 .obtain⟨V,F⟩:=choose_lt (α:=α × List Value) (n:=len) (p:=λ i q=>W.cells? 0 (a.add (i*size)) size=some q.2/\Pd W W.heap.size q.1 q.2/\μ q.1<=Rows.uptoBulk (d.getD i (.nil,[])).1) (λ i o=>by
   have D:=K i o;have v:i<d.length:=by omega
   rw[bL v,O] at D;obtain⟨s,Y,S⟩:=Option.bind_eq_some_iff.1 D;obtain⟨b,T,R⟩:=G n s _ (Nat.lt_succ_self n) S;exact⟨(b,s),Y,T,by rw[List.getD_eq_getElem?_getD,bL v];exact R⟩)
  have k:∀ i,i<len->(V i).2.length=size:=λ i o=>(World.cells?_some (F i o).1).2.1;have m:((bp len).map (λ i=>(V i).1)).length=len:=by simp
  refine⟨some a,(bp len).map (λ i=>(V i).1),L,by rw[m],⟨by rw[m];omega,(bp len).flatMap (λ i=>(V i).2),⟨by rw[m];exact zD k,λ I=>?_⟩,λ i o=>?_⟩,by rw[m];exact P,?_,?_⟩
  .rw[m] at I;have E:∀ i r,i<len->r<size->∀ u,(V i).2[r]?=some u->W.cell? (a.add (i*size+r))=some u:=λ i r o J u M=>by
    have D:=(World.cells?_some (F i o).1).2.2 r J;rw[kC] at D;rw[D,M]
   refine⟨a,rfl,?_,λ j u M=>?_⟩
   .have U:0<(V 0).2.length:=by rw[k 0 I];exact w
    have D:=E 0 0 I w _ (bL U);have:=block_lt_of_cell D
    rwa [iW] at this
   .obtain⟨i,r,o,J,rfl,N⟩:=abj k w M;exact E i r o J u N
  .have v:i<len:=by rw[m] at o;exact o
   rw[Bv k i v];simp only[List.getElem_map,List.getElem_range];exact (F i v).2.1
  .show _<=Rows.uptoBulk (bN (d.map (·.1)) (C.map (·.1)));rw[Rows.uptoBulk,MS];have Q:(d.map (·.1)).map Rows.uptoBulk=(bp len).map (λ i=>Rows.uptoBulk (d.getD i (.nil,[])).1):=by
    rw[b7,map_by_index d (.nil,[]),B];rfl
   rw[Q,b7];have:=Xy (f:=μ ∘ λ i=>(V i).1) (g:=λ i=>Rows.uptoBulk (d.getD i (.nil,[])).1) (bp len) (λ i o=>(F i (List.mem_range.1 o)).2.2);omega
  .show _<=Rows.uptoBulk (bN (d.map (·.1)) (C.map (·.1)));rw[Rows.uptoBulk,m];have:=zC (d.map (·.1));rw[List.length_map,B] at this;omega
theorem pY {a:Nat} {cs:List Value} {x:DataW H × List MemPlace} (h:bk enc Tryz.prog W 0 (λ _=>true) true a 3 cs=some x):∃ n,cs = [.int .i64 n]:=by
 obtain⟨n,e,-⟩:=DataW.trod_int Tryz.underlying3 h;exact⟨n,e⟩
theorem tV {a:Nat} {cs:List Value} {x:DataW H × List MemPlace} (h:bk enc Tryz.prog W 0 (λ _=>true) true a 9 cs=some x):∃ s:ByteArray,cs = [.string s]/\s.size<=maxLen:=by
 obtain⟨s,e,-,b⟩:=DataW.trod_string Tryz.underlying9 h;exact⟨s,e,b⟩
theorem xx {a:Nat} {cs:List Value} {x:DataW H × List MemPlace} (h:bk enc Tryz.prog W 0 (λ _=>true) true a 4 cs=some x):∃ b,cs = [.bool b]:=by
 obtain⟨b,e,-⟩:=DataW.trod_bool Tryz.underlying4 h;exact⟨b,e⟩
theorem agh {α:Type}:∀ {cs:List α},cs.length=2->∃ a b,cs = [a,b]
 | [a,b],_=>⟨a,b,rfl⟩
theorem list4 {α:Type}:∀ {cs:List α},cs.length=4->∃ a b c d,cs = [a,b,c,d]
 | [a,b,c,d],_=>⟨a,b,c,d,rfl⟩
theorem agi {α:Type}:∀ {cs:List α},cs.length=8->∃ a b c d e f g h,cs = [a,b,c,d,e,f,g,h]
 | [a,b,c,d,e,f,g,h],_=>⟨a,b,c,d,e,f,g,h,rfl⟩
theorem abk {a:Nat} {cs:List Value} {x:DataW H × List MemPlace} (h:bk enc Tryz.prog W 0 (λ _=>true) true a 65 cs=some x) :
  ∃ y0 y1 y2 y3 n,a=n+1/\x.1 = .agg [y0.1,y1.1,y2.1,y3.1]/\cs.length=4/\bk enc Tryz.prog W 0 (λ _=>true) true n 3 ((cs.drop 0).take 1)=some y0/\bk enc Tryz.prog W 0 (λ _=>true) true n 3 ((cs.drop 1).take 1)=some y1/\bk enc Tryz.prog W 0 (λ _=>true) true n 9 ((cs.drop 2).take 1)=some y2/\bk enc Tryz.prog W 0 (λ _=>true) true n 54 ((cs.drop 3).take 1)=some y3:=by
 obtain⟨d,n,e,rfl,f,b,c⟩:=b9 Tryz.underlying65 h
 match d,b with
 | [y0,y1,y2,y3],_ =>
  refine⟨y0,y1,y2,y3,n,e,rfl,f.trans (by kernel_rfl),?_,?_,?_,?_⟩
  .have h:bk enc Tryz.prog W 0 (λ _=>true) true n 3 ((cs.drop 0).take (Tryz.prog.cellsOf 3))=some y0:=c 0 _ rfl;rw[show Tryz.prog.cellsOf 3=1 by kernel_rfl] at h;exact h
  .have h:bk enc Tryz.prog W 0 (λ _=>true) true n 3 ((cs.drop 1).take (Tryz.prog.cellsOf 3))=some y1:=c 1 _ rfl;rw[show Tryz.prog.cellsOf 3=1 by kernel_rfl] at h;exact h
  .have h:bk enc Tryz.prog W 0 (λ _=>true) true n 9 ((cs.drop 2).take (Tryz.prog.cellsOf 9))=some y2:=c 2 _ rfl;rw[show Tryz.prog.cellsOf 9=1 by kernel_rfl] at h;exact h
  .have h:bk enc Tryz.prog W 0 (λ _=>true) true n 54 ((cs.drop 3).take (Tryz.prog.cellsOf 54))=some y3:=c 3 _ rfl;rw[show Tryz.prog.cellsOf 54=1 by kernel_rfl] at h;exact h
theorem abl {a:Nat} {cs:List Value} {x:DataW H × List MemPlace} (h:bk enc Tryz.prog W 0 (λ _=>true) true a 67 cs=some x) :
  ∃ y0 y1 y2 y3 y4 n,a=n+1/\x.1 = .agg [y0.1,y1.1,y2.1,y3.1,y4.1]/\cs.length=8/\bk enc Tryz.prog W 0 (λ _=>true) true n 3 ((cs.drop 0).take 1)=some y0/\bk enc Tryz.prog W 0 (λ _=>true) true n 3 ((cs.drop 1).take 1)=some y1/\bk enc Tryz.prog W 0 (λ _=>true) true n 9 ((cs.drop 2).take 1)=some y2/\bk enc Tryz.prog W 0 (λ _=>true) true n 65 ((cs.drop 3).take 4)=some y3/\bk enc Tryz.prog W 0 (λ _=>true) true n 52 ((cs.drop 7).take 1)=some y4:=by
 obtain⟨d,n,e,rfl,f,b,c⟩:=b9 Tryz.underlying67 h
 match d,b with
 | [y0,y1,y2,y3,y4],_ =>
  refine⟨y0,y1,y2,y3,y4,n,e,rfl,f.trans (by kernel_rfl),?_,?_,?_,?_,?_⟩
  .have h:bk enc Tryz.prog W 0 (λ _=>true) true n 3 ((cs.drop 0).take (Tryz.prog.cellsOf 3))=some y0:=c 0 _ rfl;rw[show Tryz.prog.cellsOf 3=1 by kernel_rfl] at h;exact h
  .have h:bk enc Tryz.prog W 0 (λ _=>true) true n 3 ((cs.drop 1).take (Tryz.prog.cellsOf 3))=some y1:=c 1 _ rfl;rw[show Tryz.prog.cellsOf 3=1 by kernel_rfl] at h;exact h
  .have h:bk enc Tryz.prog W 0 (λ _=>true) true n 9 ((cs.drop 2).take (Tryz.prog.cellsOf 9))=some y2:=c 2 _ rfl;rw[show Tryz.prog.cellsOf 9=1 by kernel_rfl] at h;exact h
  .have h:bk enc Tryz.prog W 0 (λ _=>true) true n 65 ((cs.drop 3).take (Tryz.prog.cellsOf 65))=some y3:=c 3 _ rfl;rw[show Tryz.prog.cellsOf 65=4 by kernel_rfl] at h;exact h
  .have h:bk enc Tryz.prog W 0 (λ _=>true) true n 52 ((cs.drop 7).take (Tryz.prog.cellsOf 52))=some y4:=c 4 _ rfl;rw[show Tryz.prog.cellsOf 52=1 by kernel_rfl] at h;exact h
instance:Inhabited aY:=⟨⟨.empty,0,[]⟩⟩
instance:Inhabited bP:=⟨⟨.empty,[]⟩⟩
instance:Inhabited jR:=⟨⟨.empty,[],⟨0,0,.empty,[]⟩,false⟩⟩
instance:Inhabited vJ:=⟨⟨.empty,[],[]⟩⟩
instance:Inhabited Ex:=⟨.mk 0 0 .empty ⟨0,0,.empty,[]⟩ []⟩
end
section
variable {H:Type} {enc:TypeId × Value->H} {W:World}
theorem MV {f:Nat} {cs:List Value} {x:DataW H × List MemPlace} (h:bk enc Tryz.prog W 0 (λ _=>true) true f 54 cs=some x) :
  ∃ (A:Option Addr) (l:List Int) (c:Nat),cs = [bi A l.length c]/\Reads W W.heap.size 1 A l.length (bF bf l)/\l.length<=c/\l.length<=maxLen/\l.length+1<=Rows.uptoBulk x.1:=by
 rcases open_ints Tryz.underlying54 Tryz.underlying3 (by kernel_rfl) h with ⟨rfl,rfl⟩ | ⟨a,len,i,d,rfl,-,k,s,p,rfl,b,n⟩
 .exact⟨none,[],0,rfl,Reads.none_,by simp,by simp,by simp[Rows.uptoBulk]⟩
 .simp only[if_true] at p;have e:(d.take len).length=len:=by simp;omega
  refine⟨some a,d.take len,i,by rw[e],?_,by rw[e];exact k,by rw[e];omega,?_⟩
  .rw[e];refine⟨by rw[mX];omega,λ r=>?_⟩;have q:=b 0 (by omega);refine⟨a,rfl,by have:=block_lt_of_cell q;rwa [iW] at this,λ j u o=>?_⟩;obtain⟨m,rfl⟩:=kD _ _ _ _ o;have g:j<d.length:=by rw[e] at m;omega
   rw[b j g];simp[List.getD,g]
  .show _<=Rows.uptoBulk (bN (lits .i64 (d.take len)) (lits .i64 (d.drop len)));rw[Rows.uptoBulk];have:=zC (H:=H) (lits .i64 (d.take len));rw[show (lits (H:=H) .i64 (d.take len)).length=(d.take len).length by simp[lits]] at this;omega
end
end Go.Proofs.YtcnagconagpkcaaGreatDoor
namespace Go.Proofs.YtcnagconagpkcaaGreatDoor.Limb
def B:Nat:=1000000000
def val:List Nat->Nat
 | []=>0
 | x :: r=>x+1000000000*val r
def Small (l:List Nat):Prop:=∀ x∈l,x<1000000000
theorem Small.nil:Small []:=λ x h=>by cases h
theorem Small.append {l r:List Nat} (h:Small l) (b:Small r):Small (l ++ r):=λ x a=>by
 rcases ca.1 a with a | a
 .exact h x a
 .exact b x a
theorem Small.snoc {l:List Nat} {x:Nat} (h:Small l) (b:x<1000000000):Small (l ++ [x]):=h.append λ y a=>by simp at a;omega
theorem Small.take {l:List Nat} (h:Small l) (k:Nat):Small (l.take k):=λ x a=>h x (List.mem_of_mem_take a)
theorem Small.drop {l:List Nat} (h:Small l) (k:Nat):Small (l.drop k):=λ x a=>h x (List.mem_of_mem_drop a)
theorem Small.at_ {l:List Nat} (h:Small l) {k:Nat} (a:k<l.length):l[k]<1000000000:=h _ (bB a)
end Go.Proofs.YtcnagconagpkcaaGreatDoor.Limb
namespace Go.Proofs.YtcnagconagpkcaaGreatDoor.Dig
open Limb
def dK (b:UInt8):Prop:=48<=b.toNat/\b.toNat<=57
def eu (l:List UInt8):Nat:=l.foldl (λ n b=>n*10+(b.toNat - 48)) 0
theorem Un (l:List UInt8) (n:Nat):l.foldl (λ n b=>n*10+(b.toNat - 48)) n=n*10 ^ l.length+eu l:=by
 induction l generalizing n with
 | nil=>simp[eu]
 | cons b l ih =>
  have e:eu (b :: l)=(b.toNat - 48)*10 ^ l.length+eu l:=by
   unfold eu;rw[bO,ih,bS,Nat.zero_add];rfl
  rw[bO,ih,e,b1,cb,Nat.add_mul];have:n*10*10 ^ l.length=n*(10 ^ l.length*10):=by rw[Nat.mul_assoc,bK 10]
  omega
theorem Hr (a b:List UInt8):eu (a ++ b)=eu a*10 ^ b.length+eu b:=by
 have:=Un b (eu a);unfold eu at *;rw[List.foldl_append,this]
theorem CZ (b:UInt8) (l:List UInt8):eu (b :: l)=(b.toNat - 48)*10 ^ l.length+eu l:=by
 have:=Hr [b] l;simpa [eu] using this
theorem C9 (l:List UInt8) (b:UInt8):eu (l ++ [b])=eu l*10+(b.toNat - 48):=by
 simp[eu]
theorem xy {k:Nat} (h:k<10):(UInt8.ofNat (48+k)).toNat=48+k:=by
 rw[UInt8.toNat_ofNat'];omega
theorem EK (u:Nat):eu (bo u)=u:=by
 induction u using ce with
 | _ u ih =>
  rw[bo];by_cases h:u<10
  .rw[dif_pos h];simp only[eu,bO,List.foldl_nil,xy h];omega
  .rw[dif_neg h,C9,ih (u / 10) (by omega),xy (bx _ (by omega))];omega
theorem xA (u:Nat):∀ b∈bo u,dK b:=by
 induction u using ce with
 | _ u ih =>
  rw[bo];by_cases h:u<10
  .rw[dif_pos h];intro b a;rw[bq.1 a];unfold dK;rw[xy h];omega
  .rw[dif_neg h];intro b a;rcases ca.1 a with a | a
   .exact ih (u / 10) (by omega) b a
   .rw[bq.1 a];unfold dK;rw[xy (bx _ (by omega))];omega
theorem iD (k u:Nat) (h:u<10 ^ (k+1)):(bo u).length<=k+1:=by
 induction k generalizing u with
 | zero=>rw[bo,dif_pos (by simpa using h)];simp
 | succ k ih =>
  rw[bo];by_cases h0:u<10
  .rw[dif_pos h0];simp
  .rw[dif_neg h0,b4];have:=ih (u / 10) (by rw[cb] at h;omega);simp;omega
theorem abm (u:Nat):0<(bo u).length:=by
 rw[bo];split <;> simp
def zeros (k:Nat):List UInt8:=cf k 48
theorem JF (k:Nat) (l:List UInt8):eu (zeros k ++ l)=eu l:=by
 induction k with
 | zero=>rfl
 | succ k ih =>
  rw[zeros,List.replicate_succ,List.cons_append,CZ];rw[show cf k 48 ++ l=zeros k ++ l from rfl,ih];simp
theorem Uo (k:Nat):∀ b∈zeros k,dK b:=λ b a=>by
 rw[(List.mem_replicate.1 a).2];unfold dK;decide
end Go.Proofs.YtcnagconagpkcaaGreatDoor.Dig
namespace Go.Proofs.YtcnagconagpkcaaGreatDoor.Cal
def lp (y:Int):Bool:=(decide (y % 4=0) && decide (y % 100≠0)) || decide (y % 400=0)
def MW (y m:Int):Int:=if m=2 then (if lp y=true then 29 else 28) else if m=4\/m=6\/m=9\/m=11 then 30 else 31
def yd (y:Int):Int:=if lp y=true then 366 else 365
def base (y:Int):Int:=365*(y - 1970)+((y - 1) / 4 - (y - 1) / 100+(y - 1) / 400) - 477
def fb (y:Int):Int:=if lp y=true then 29 else 28
def EL (y m:Int):Int:=
 if m<=1 then 0 else if m=2 then 31 else if m=3 then 31+fb y else if m=4 then 62+fb y else if m=5 then 92+fb y else if m=6 then 123+fb y else
 if m=7 then 153+fb y else if m=8 then 184+fb y else if m=9 then 215+fb y else if m=10 then 245+fb y else if m=11 then 276+fb y else if m=12 then 306+fb y else 337+fb y
def num (y m d:Int):Int:=base y+EL y m+d - 1
theorem Xz (y:Int):(lp y=true/\(y % 4=0/\y % 100≠0\/y % 400=0))\/(lp y=false/\¬ (y % 4=0/\y % 100≠0\/y % 400=0)):=by
 unfold lp;by_cases a:y % 4=0 <;> by_cases b:y % 100=0 <;> by_cases c:y % 400=0 <;> simp[a,b,c] <;> omega
theorem Bz (y:Int):base (y+1)=base y+yd y:=by
 unfold base yd;rcases Xz y with ⟨h,e⟩ | ⟨h,e⟩
 .rw[if_pos h];omega
 .rw[if_neg (by rw[h];simp)];omega
theorem BD:base 1900 = -25567:=by decide
theorem xB:base 2200=84006:=by decide
theorem mg {a b:Int} (h:a<=b):base a<=base b:=by unfold base;omega
theorem EM (y:Int):(fb y=29/\yd y=366/\lp y=true)\/(fb y=28/\yd y=365/\lp y=false):=by
 unfold fb yd;cases h:lp y <;> simp
theorem ni (y m:Int) (c:1<=m) (d:m<=12):EL y (m+1)=EL y m+MW y m:=by
 have:m=1\/m=2\/m=3\/m=4\/m=5\/m=6\/m=7\/m=8\/m=9\/m=10\/m=11\/m=12:=by omega
 rcases EM y with ⟨a,-,b⟩ | ⟨a,-,b⟩ <;> rcases this with rfl | rfl | rfl | rfl | rfl | rfl | rfl | rfl | rfl | rfl | rfl | rfl <;> simp[EL,MW,a,b]
theorem D9 (y:Int):EL y 1=0:=by simp[EL]
theorem P7 (y:Int):EL y 13=yd y:=by
 rcases EM y with ⟨b,a,-⟩ | ⟨b,a,-⟩ <;> simp[EL,b,a]
theorem EN (y m:Int):28<=MW y m/\MW y m<=31:=by unfold MW;repeat' split <;> omega
theorem Qa (y m:Int):0<=EL y m/\EL y m<=366:=by
 rcases EM y with ⟨a,-,-⟩ | ⟨a,-,-⟩ <;> unfold EL <;> rw[a] <;> repeat' split <;> omega
theorem EO (y:Int) {a b:Int} (h:a<=b) (f:1<=a) (g:b<=13):EL y a<=EL y b:=by
 obtain⟨k,c⟩:∃ k:Nat,b=a+k:=⟨(b - a).toNat,by omega⟩;subst c;clear h
 induction k with
 | zero=>simp
 | succ k ih =>
  have e:=ni y (a+k) (by omega) (by omega);have d:=EN y (a+k);have:=ih (by omega);rw[show a+((k+1:Nat):Int)=a+k+1 from by omega];omega
theorem Sm (y:Int) (a:1600<=y) (b:y<=2400) : -136000<=base y/\base y<=158000:=by unfold base;omega
structure gI (n y m d:Int):Prop where
 m1:1<=m
 m2:m<=12
 d1:1<=d
 d2:d<=MW y m
 eq:num y m d=n
theorem gI.year {n y m d:Int} (h:gI n y m d):base y<=n/\n<base (y+1):=by
 have b:=Qa y m;have c:=ni y m h.m1 h.m2;have e:=EO y (show m+1<=13 by have:=h.m2;omega) (by have:=h.m1;omega) (by omega);have a:=P7 y;have f:=Bz y;have:=h.eq;have:=h.d1;have:=h.d2;unfold num at *;omega
theorem gI.unique {n y m d y' m' d':Int} (h:gI n y m d) (c:gI n y' m' d'):y=y'/\m=m'/\d=d':=by
 have e:y=y':=by
  have a:=h.year;have b:=c.year;rcases cg y y' with l | l | l
  .have:=mg (show y+1<=y' by omega);omega
  .exact l
  .have:=mg (show y'+1<=y by omega);omega
 subst e;have f:m=m':=by
  have a:=ni y m h.m1 h.m2;have b:=ni y m' c.m1 c.m2;have:=h.eq;have:=h.d1;have:=h.d2;have:=c.eq;have:=c.d1;have:=c.d2;unfold num at *;rcases cg m m' with l | l | l
  .have:=EO y (show m+1<=m' by omega) (by have:=h.m1;omega) (by have:=c.m2;omega);omega
  .exact l
  .have:=EO y (show m'+1<=m by omega) (by have:=c.m1;omega) (by have:=h.m2;omega);omega
 subst f;refine⟨rfl,rfl,?_⟩;have:=h.eq;have:=c.eq;unfold num at *;omega
open Classical in
noncomputable def civ (n:Int):Int × Int × Int:=if h:∃ p:Int × Int × Int,gI n p.1 p.2.1 p.2.2 then Classical.choose h else (0,0,0)
theorem Qb {n y m d:Int} (h:gI n y m d):civ n=(y,m,d):=by
 have a:∃ p:Int × Int × Int,gI n p.1 p.2.1 p.2.2:=⟨(y,m,d),h⟩;unfold civ;rw[dif_pos a];obtain⟨b,c,e3⟩:=(Classical.choose_spec a).unique h;exact Prod.ext b (Prod.ext c e3)
noncomputable def cy (n:Int):Int:=(civ n).1
noncomputable def cm (n:Int):Int:=(civ n).2.1
noncomputable def cd (n:Int):Int:=(civ n).2.2
theorem gI.cy {n y m d:Int} (h:gI n y m d):cy n=y:=by unfold Cal.cy;rw[Qb h]
theorem gI.cm {n y m d:Int} (h:gI n y m d):cm n=m:=by unfold Cal.cm;rw[Qb h]
theorem gI.cd {n y m d:Int} (h:gI n y m d):cd n=d:=by unfold Cal.cd;rw[Qb h]
def IE (n:Int):Int:=if n<0 then 1970+n.tdiv 365 - 1 else 1970+n.tdiv 366
theorem XA {n:Int} (b : -25567<=n) (c:n<=84005):base (IE n)<=n/\1899<=IE n/\IE n<=2199:=by
 unfold IE;split
 .rename_i a;have e:n.tdiv 365 = -((-n) / 365):=by
   obtain⟨k,rfl⟩:∃ k:Nat,n = -(k:Int):=⟨n.natAbs,by omega⟩;rw[ch,bs (by omega)];simp
  rw[e];unfold base;omega
 .rename_i a;rw[bs (by omega)];unfold base;omega
theorem Dc {n:Int} (k:Int) (a:n<0):n.tdiv k = -((-n) / k):=by
 obtain⟨j,rfl⟩:∃ j:Nat,n = -(j:Int):=⟨n.natAbs,by omega⟩;rw[ch,bs (by omega)];simp
theorem abn {n:Int} (b : -25567<=n) (a:n<=84005) : -71<=n.tdiv 365/\n.tdiv 365<=231 /\ -71<=n.tdiv 366/\n.tdiv 366<=231:=by
 by_cases hn:n<0
 .rw[Dc 365 hn,Dc 366 hn];omega
 .rw[bs (by omega),bs (by omega)];omega
theorem yG {n y:Int} (e : -25567<=n) (f:n<=84005) (c:base y<=n) (d:n<base (y+1)):1900<=y/\y<=2199:=by
 have a:=BD;have b:=xB;constructor
 .by_cases h:1900<=y
  .exact h
  .have:=mg (show y+1<=1900 by omega);omega
 .by_cases h:y<=2199
  .exact h
  .have:=mg (show 2200<=y by omega);omega
theorem EP {n y m:Int} (c:base y+EL y m<=n) (d:n<base y+EL y m+MW y m) (a:1<=m) (b:m<=12):gI n y m (n - (base y+EL y m)+1):=
 ⟨a,b,by omega,by omega,by unfold num;omega⟩
theorem XB {n:Int} (j : -25567<=n) (o:n<=84005):∃ y m d,gI n y m d:=by
 have i:∀ k:Nat,∀ y,base y<=n->2200 - y=k->∃ y,base y<=n/\n<base (y+1):=by
  intro k
  induction k with
  | zero=>intro y a f;exact⟨y,a,by have:=xB;have:=mg (show 2200<=y+1 by omega);omega⟩
  | succ k ih =>
   intro y a f;by_cases h:n<base (y+1)
   .exact⟨y,a,h⟩
   .exact ih (y+1) (by omega) (by omega)
 obtain⟨y,a,l⟩:=i 300 1900 (by have:=BD;omega) (by omega);have g:∀ k:Nat,∀ m,1<=m->m<=12->base y+EL y m<=n->12 - m=k->∃ m d,gI n y m d:=by
  intro k
  induction k with
  | zero =>
   intro m b c e f;obtain rfl:m=12:=by omega
   have:=ni y 12 (by omega) (by omega);have:=P7 y;have:=Bz y;exact⟨12,_,EP e (by simp only[show (12:Int)+1=13 from rfl] at *;omega) (by omega) (by omega)⟩
  | succ k ih =>
   intro m b c e f;by_cases h:n<base y+EL y (m+1)
   .exact⟨m,_,EP e (by have:=ni y m b c;omega) b c⟩
   .exact ih (m+1) (by omega) (by omega) (by omega) (by omega)
 obtain⟨m,d,h⟩:=g 11 1 (by omega) (by omega) (by rw[D9];omega) (by omega);exact⟨y,m,d,h⟩
theorem MX {n:Int} (a : -25567<=n) (b:n<=84005):gI n (cy n) (cm n) (cd n):=by
 obtain⟨y,m,d,h⟩:=XB a b;rw[h.cy,h.cm,h.cd];exact h
def lT (y m d:Int):Bool:=decide (1900<=y) && decide (y<=2199) && decide (1<=m) && decide (m<=12) && decide (1<=d) && decide (d<=MW y m)
theorem tX (y m d:Int):lT y m d=true ↔ (1900<=y/\y<=2199)/\(1<=m/\m<=12)/\1<=d/\d<=MW y m:=by
 simp only[lT,Bool.and_eq_true,decide_eq_true_eq];omega
theorem Ur {y m d:Int} (i:1<=m) (j:m<=12) (l:1<=d) (k:d<=MW y m):(-25567<=num y m d/\num y m d<=84005) ↔ (1900<=y/\y<=2199):=by
 have h:gI (num y m d) y m d:=⟨i,j,l,k,rfl⟩;obtain⟨f,g⟩:=h.year;constructor
 .rintro ⟨c,e⟩;exact yG c e f g
 .rintro ⟨c,e⟩;have a:=BD;have b:=xB;have:=mg c;have:=mg (show y+1<=2200 by omega);omega
end Go.Proofs.YtcnagconagpkcaaGreatDoor.Cal
