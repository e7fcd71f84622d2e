/- Lemmas. -/
import Derived.Test.YtcnagconagpkcaaGreatDoorZ9
set_option maxHeartbeats 4000000
set_option maxRecDepth 100000
open Go.Value renaming int->bf, string->bh, slice->bi, pointer->bj, bool->bk, oneCell'->bv
open Go.IntKind renaming i64->bg
open Go.Ending renaming returned->bl
open And renaming intro->bm
open Nat renaming le_trans->bn, le_refl->bp, zero_le->bq, lt_of_lt_of_le->bt
open List renaming take_succ_eq_append_getElem->br, getElem_mem->bs, all_eq_true->bw, mem_append->bx, mem_singleton->bA, take_of_length_le->bB, mem_cons_self->bE, isPrefixOf->bK, map_cons->bL, any_eq_true->bN, length_take->bO, length_append->bQ, drop_eq_getElem_cons->bR, getElem?_eq_getElem->bS, drop_length->bX, flatMap_cons->b0, mem_cons->b4, replicate->b5, mem_cons_of_mem->b6, cons_append->b7, isSuffixOf_iff_suffix->b9, tail_cons->ca
namespace Go.Proofs.YtcnagconagpkcaaGreatDoor
open Go.RowKit
attribute [local go_sem ↓] Go.wp_at_zero Go.wp_at_succ
attribute [local go_sem ↓] ld_item st_item ld_node st_node ld_ans st_ans ld_part st_part ld_rule st_rule ld_form st_form
set_option maxHeartbeats 4000000
set_option maxRecDepth 100000
def Lt (l:List Int):Nat->Option Int
 | 0=>none
 | k+1=>l[k]?
theorem U9 {l:List Int} {k:Nat} (h:k<l.length):D5 (Lt l k) (l.drop k)=if (match Lt l k with | some p=>decide (l[k]<=p) | none=>false) then 7 else if aN l[k] 1 3=true then 1 else D5 (Lt l (k+1)) (l.drop (k+1)):=by
 rw[bR h];simp only[D5];rw[show Lt l (k+1)=some l[k] from bS h];cases Lt l k <;> rfl
def D6 (a:rG) (r:Int):Int:=if r≠0 then r else if 6<a.ch.length then 2 else 0
theorem Yl (w:World):(zeroValue 92).run Tryz.prog w = .ok (.agg #[bh ⟨#[]⟩,bi none 0 0]) w:=by kernel_rfl
theorem Oz {w:World} {B0 C m1 L m3:Nat} {x:nM} {f:bC} {N:List aj} {K:bu} (h:bF w B0 C m1 L m3 x f N K) {X:Nat} (ad:w.cell? ⟨X,0,none⟩=some (bj (some ⟨C,0,none⟩))) (aE:X<w.heap.size) {a:rG} {B1:Option Addr} {b1:Nat} {B2:Option Addr} {b2:Nat} {B3:Option Addr} {b3:Nat} (ha:sK w B0 a B1 b1 B2 b2 B3 b3) :
  IE 116 #[bj (some ⟨X,0,none⟩),.agg (CS a B1 b1 B2 b2 B3 b3)] w (bf bg (Oi f.lists a)):=by
 obtain⟨kv,hm,hk⟩:=h.ls;have hB:=h.le;have an:=ha.h3.1;have ap:=ha.l4;unfold maxLen at ap an;have ax:=ha.l5;have xy:w.cell? ⟨C,7,none⟩=some (.map (some L)):=h.blk.cell 7;obtain⟨W,hW⟩:=aC (w.alloc (.cells (CS a B1 b1 B2 b2 B3 b3) 57 (0,0)));have d:IY w W:=hW▸az w _;have t:ah W w.heap.size 57 (CS a B1 b1 B2 b2 B3 b3):=hW▸ah.new w _ _;have Z:W.cell? ⟨w.heap.size,0,none⟩=some (bf bg a.k):=t.cell 0;have q1:W.cell? ⟨w.heap.size,1,none⟩=some (bf bg a.lo):=t.cell 1;have q2:W.cell? ⟨w.heap.size,2,none⟩=some (bf bg a.hi):=t.cell 2;have q3:W.cell? ⟨w.heap.size,3,none⟩=some (bf bg a.pl):=t.cell 3;have U:W.cell? ⟨w.heap.size,4,none⟩=some (bh a.ls):=t.cell 4;have q5:W.cell? ⟨w.heap.size,5,none⟩=some (bi B1 a.only.length b1):=t.cell 5;have q6:W.cell? ⟨w.heap.size,6,none⟩=some (bk a.sh):=t.cell 6;have q7:W.cell? ⟨w.heap.size,7,none⟩=some (bi B2 a.rs.length b2):=t.cell 7;have q8:W.cell? ⟨w.heap.size,8,none⟩=some (bk a.need):=t.cell 8;have q9:W.cell? ⟨w.heap.size,9,none⟩=some (bi B3 a.ch.length b3):=t.cell 9;have IX:(Df 57 (bj (some ⟨w.heap.size,0,none⟩))).run Tryz.prog W = .ok (.agg [bf bg a.k,bf bg a.lo,bf bg a.hi,bf bg a.pl,bh a.ls,bi B1 a.only.length b1,bk a.sh,bi B2 a.rs.length b2,bk a.need,bi B3 a.ch.length b3].toArray) W:=yl rfl (nI t);have ng:=qh t;have HQ:=qh d;have z:=qh (ha.h2.below (d.mono hB));have Y:W.cell? ⟨X,0,none⟩=some (bj (some ⟨C,0,none⟩)):=Below.cell_of d ad;have V:W.cell? ⟨C,7,none⟩=some (.map (some L)):=Below.cell_of d xy;have HM:=qh (bm (hm.below d hm.lt) hk);have KL:=qh (λ (w:World)=>Oy a.k w);have KF:=qh (U1 (w:=W) (a:=a) (B1:=B1) (b1:=b1) (B2:=B2) (b2:=b2) (B3:=B3) (b3:=b3));have g:=qh (Oi.eq_def f.lists a);obtain⟨F,hF⟩:=af (Oi f.lists a);rw[hF] at g ⊢;obtain⟨G,QW⟩:=af ((IW a.k).1);obtain⟨E,Q⟩:=af ((IW a.k).2);rw[QW,Q] at g;simp only[QW,Q] at KL;obtain⟨x1,J⟩:=af (aN a.k 2 6);have K1:=qh (kM a.k 2 6 W);obtain⟨x2,M⟩:=af (Tt a);obtain⟨x3,I⟩:=af (aN a.lo G E);have K3:=qh (λ (w:World)=>kM a.lo G E w);obtain⟨x4,R⟩:=af (aN a.hi G E);have K4:=qh (λ (w:World)=>kM a.hi G E w);obtain⟨x5,O⟩:=af (aN a.pl 0 4);have K5:=qh (λ (w:World)=>kM a.pl 0 4 w);rw[J,M,I,R,O] at g;rw[J] at K1;rw[M] at KF;simp only[I] at K3;simp only[R] at K4;simp only[O] at K5;have HS:=qh (show ∀ w',IY W w'->w'.cell? ⟨X,0,none⟩=some (bj (some ⟨C,0,none⟩))/\w'.cell? ⟨C,7,none⟩=some (.map (some L))/\w'.cell? ⟨w.heap.size,0,none⟩=some (bf bg a.k)/\w'.cell? ⟨w.heap.size,1,none⟩=some (bf bg a.lo)/\w'.cell? ⟨w.heap.size,2,none⟩=some (bf bg a.hi)/\w'.cell? ⟨w.heap.size,3,none⟩=some (bf bg a.pl)/\w'.cell? ⟨w.heap.size,4,none⟩=some (bh a.ls)/\w'.cell? ⟨w.heap.size,5,none⟩=some (bi B1 a.only.length b1)/\w'.cell? ⟨w.heap.size,6,none⟩=some (bk a.sh)/\w'.cell? ⟨w.heap.size,7,none⟩=some (bi B2 a.rs.length b2)/\w'.cell? ⟨w.heap.size,8,none⟩=some (bk a.need)/\w'.cell? ⟨w.heap.size,9,none⟩=some (bi B3 a.ch.length b3) from λ w' u=>⟨Below.cell_of u Y,Below.cell_of u V,Below.cell_of u Z,Below.cell_of u q1,Below.cell_of u q2,Below.cell_of u q3,Below.cell_of u U,Below.cell_of u q5,Below.cell_of u q6,Below.cell_of u q7,Below.cell_of u q8,Below.cell_of u q9⟩);clear t ha hm hk h hF QW Q ad xy J M I R O;go_enter Tryz.func116,Tryz.ntmps116;go_upto_region 1 with (fail);rw[<- hW];clear hW;go_upto_region 2 with (go_at_call 171;(with_reducible refine (KL.o _).mono ?_);rintro v b ⟨rfl,rfl⟩);cases x1
 case true =>
  go_wp2_with (go_at_call 30;(with_reducible refine K1.o.mono ?_);rintro v b ⟨rfl,rfl⟩);go_ret;exact⟨ag (by rw[g.o];simp),HQ.o⟩
 have g:=qh (g.o.trans (if_neg (by decide)));go_upto_region 4 with (go_at_call 30;(with_reducible refine K1.o.mono ?_);rintro v b ⟨rfl,rfl⟩);cases x2
 case false =>
  go_wp2_with (go_at_call 172;(with_reducible refine KF.o.mono ?_);rintro v b ⟨rfl,o⟩);go_ret;exact⟨ag (by rw[g.o];simp),d.trans (o.mono d.size)⟩
 have g:=qh (g.o.trans (if_neg (by decide)));go_upto_region 6 with (go_at_call 172;(with_reducible refine KF.o.mono ?_);rintro v b ⟨rfl,o⟩);have n:=qh (d.trans (o.mono d.size));have MZ:=qh o;clear Y V Z q1 q2 q3 U q5 q6 q7 q8 q9 IX;obtain⟨Y,V,Z,q1,q2,q3,U,q5,q6,q7,q8,q9⟩:=HS.o _ o;clear o d;by_cases hlt:a.hi<a.lo
 .have m:=qh (g.o.trans (if_pos (.inl hlt)));go_wp2;go_ret;exact⟨ag (by rw[m.o]),n.o⟩
 cases x3
 case true =>
  have m:=qh (g.o.trans (if_pos (.inr (.inl rfl))));go_wp2_with (go_at_call 30;(with_reducible refine (K3.o _).mono ?_);rintro v b ⟨rfl,rfl⟩);go_ret;exact⟨ag (by rw[m.o]),n.o⟩
 cases x4
 case true =>
  have m:=qh (g.o.trans (if_pos (.inr (.inr rfl))));go_wp2_with (first
   | (go_at_call 30;(with_reducible refine (K3.o _).mono ?_);rintro v b ⟨rfl,rfl⟩)
   | (go_at_call 30;(with_reducible refine (K4.o _).mono ?_);rintro e2 w2 ⟨rfl,rfl⟩))
  go_ret;exact⟨ag (by rw[m.o]),n.o⟩
 have g:=qh (g.o.trans (if_neg (by rintro (h | h | h);exact hlt h;cases h;cases h)));go_upto_region 8 with (first
  | (go_at_call 30;(with_reducible refine (K3.o _).mono ?_);rintro v b ⟨rfl,rfl⟩)
  | (go_at_call 30;(with_reducible refine (K4.o _).mono ?_);rintro e2 w2 ⟨rfl,rfl⟩))
 clear hlt;cases x5
 case true =>
  have m:=qh (g.o.trans (if_pos rfl));go_wp2_with (go_at_call 30;(with_reducible refine (K5.o _).mono ?_);rintro v b ⟨rfl,rfl⟩);go_ret;exact⟨ag (by rw[m.o]),n.o⟩
 have g:=qh (g.o.trans (if_neg (by decide)));go_upto_region 10 with (go_at_call 30;(with_reducible refine (K5.o _).mono ?_);rintro v b ⟨rfl,rfl⟩);have q:=Below.refl b.heap.size b;have aw:B0<=b.heap.size:=bn hB n.o.size;have aD:w.heap.size<b.heap.size:=bt ng.o.lt MZ.o.size;have vM:=qh (HM.o.1.below MZ.o HM.o.1.lt);obtain⟨s9,A9,n9,c9,ok,P,ae⟩:∃ s9 A9 n9 c9 ok,(∀ w',IY b w'->(Instr.lookup 113 (.map (some L)) (bh a.ls) true).run Tryz.prog w' = .ok (.tuple #[.agg #[bh s9,bi A9 n9 c9],bk ok]) w')/\(nU f.lists a.ls).isNone=!ok:=by
  have T:=HM.o.2 a.ls;have h8:=λ w' (y:IY b w')=>(vM.o.below y vM.o.lt).look Tryz.underlying113 (Yl w') ax;cases B:nU f.lists a.ls with
  | none =>
   rw[B] at T;exact⟨_,_,_,_,false,λ w' y=>by have:=h8 w' y;rw[T] at this;exact this,rfl⟩
  | some l =>
   rw[B] at T;obtain⟨A,c,T,-⟩:=T;exact⟨_,_,_,_,true,λ w' y=>by have:=h8 w' y;rw[T] at this;exact this,rfl⟩
 rw[ae] at g;have qP:=qh (λ w' (B:IY b w')=>bm (Below.cell_of B Y) (bm (Below.cell_of B V) (bm (Below.cell_of B U) (bm (P w' B) B))));have ay:=P b q;have aq:=qh (λ w' (B:IY b w')=>HS.o w' (MZ.o.trans (B.mono MZ.o.size)));have z:=qh (z.o.below (MZ.o.mono (bn hB HQ.o.size)));clear P ae Z q1 q2 q3 q5 q6 q7 q8 q9 K1 KF HS KL HM K3 K4 K5;go_region_held3 (λ w'=>w'.cell? ⟨X,0,none⟩=some (bj (some ⟨C,0,none⟩))/\w'.cell? ⟨C,7,none⟩=some (.map (some L))/\w'.cell? ⟨w.heap.size,4,none⟩=some (bh a.ls)/\(Instr.lookup 113 (.map (some L)) (bh a.ls) true).run Tryz.prog w' = .ok (.tuple #[.agg #[bh s9,bi A9 n9 c9],bk ok]) w'/\IY b w')
  (first | exact qP.o _ q.drew | exact qP.o _ (q.alloc (bp _) _) | exact qP.o _ (q.alloc (bp _) _).drew | exact qP.o _ (q.drew.alloc (bp _) _) | exact qP.o _ q) (fail)
 all_goals
  obtain⟨W2,S⟩:=aC ((b.alloc (.cells #[bh s9,bi A9 n9 c9] 92 (0,0))).drew);have H:IY b W2:=S▸((Below.refl _ b).alloc (bp _) _).drew;rw[<- S];clear S Y V U ay;obtain⟨Y,V,Z,q1,q2,q3,U,q5,q6,q7,q8,q9⟩:=aq.o _ H;have s:=qh (n.o.trans (H.mono n.o.size));have z:=qh (z.o.below (H.mono aw));clear H;by_cases hbad:ok=false/\(a.k=4\/a.k=5)
  .obtain⟨rfl,lH⟩:=hbad;have m:=qh (g.o.trans (if_pos ⟨rfl,lH⟩));by_cases h4:a.k=4
   case' pos =>
    obtain⟨g4,ac⟩:=jk h4;clear lH h4
   case' neg =>
    obtain⟨g4,ac⟩:=fU h4;obtain⟨g5,WO⟩:=jk (lH.resolve_left h4);clear lH h4
   all_goals
    go_wp2;go_ret;exact⟨ag (by rw[m.o]),s.o⟩
  have av:=qh (show F=D6 a (D5 none a.rs) from g.o.trans (if_neg (λ h=>hbad ⟨by simpa using h.1,h.2⟩)));clear g;cases ok
  case' false =>
   obtain⟨g4,ac⟩:=fU (λ h:a.k=4=>hbad ⟨rfl,.inl h⟩);obtain⟨g5,WO⟩:=fU (λ h:a.k=5=>hbad ⟨rfl,.inr h⟩);clear hbad;go_upto_region 13 with (fail)
  case' true =>
   clear hbad;go_upto_region 13 with (fail)
  all_goals
   go_wp2;go_loopw [77] (λ i wr=>∃ k:Nat,i = bf bg k/\k<=a.rs.length/\wr=W2/\Hid (F=D6 a (D5 (Lt a.rs k) (a.rs.drop k)))) (λ i _=>a.rs.length+1 - (intOf i).toNat)
   case atStart=>exact⟨0,rfl,bq _,rfl,av⟩
   case round =>
    obtain⟨k,rfl,hk,rfl,j⟩:=hrel;by_cases hlt:k<a.rs.length
    .have j:=qh (j.o.trans (congrArg (D6 a) (U9 hlt)));obtain⟨ab,ao,e9,ak,D⟩:=z.o.plain (by omega);subst e9;have ak:ab<wr.heap.size:=bt ak (bn hB s.o.size);have qx:wr.cell? ⟨ab,ao+k,none⟩=some (bf bg a.rs[k]):=D k _ (by simp[bI,hlt]);obtain⟨r,hr⟩:=af (a.rs[k]);rw[hr] at qx j;have HR:=qh hr;clear hr;have aW:=qh hlt;obtain⟨x6,aa⟩:=af (aN r 1 3);have K6:=qh (kM r 1 3 wr);rw[aa] at K6 j;clear aa;by_cases hk0:k=0
     case' pos =>
      clear D;subst hk0;rw[Nat.add_zero] at qx;have j:=qh (j.o.trans (congrArg (D6 a) (if_neg (by simp[Lt]))))
     case' neg =>
      have am:wr.cell? ⟨ab,ao+(k - 1),none⟩=some (bf bg a.rs[k - 1]):=D (k - 1) _ (by simp[bI,show k - 1<a.rs.length by omega]);obtain⟨p,hp⟩:=af (a.rs[k - 1]);have al:Lt a.rs k=some p:=by
       cases k with
       | zero=>exact absurd rfl hk0
       | succ k'=>rw[<- hp];exact bS (by omega)
      rw[hp] at am;rw[al] at j;have i0:IntKind.i64.wrap ((k:Int) - 1)=(k:Int) - 1:=IntWalk.i64_in _ (by omega);have i1:((k:Int) - 1).toNat=k - 1:=by omega
      have i2:(0:Int)<=(k:Int) - 1:=by omega
      have i3:(k:Int) - 1<(a.rs.length:Int):=by omega
      have o:0<k:=by omega
      clear hp al hk0 D;by_cases hle:r<=p
      .have j:=qh (j.o.trans (congrArg (D6 a) (if_pos (by simpa using hle))));go_wp2;go_ret;exact⟨ag (by rw[j.o];rfl),s.o⟩
      have j:=qh (j.o.trans (congrArg (D6 a) (if_neg (by simpa using hle))))
     all_goals
      go_upto_region 18 with (fail);cases x6
      case true =>
       have m:=qh (j.o.trans (congrArg (D6 a) (if_pos rfl)));go_wp2_with (go_at_call 30;(with_reducible refine K6.o.mono ?_);rintro v b ⟨rfl,rfl⟩);go_ret;exact⟨ag (by rw[m.o];rfl),s.o⟩
      have m:=qh (j.o.trans (congrArg (D6 a) (if_neg (by decide))));go_wp2_with (go_at_call 30;(with_reducible refine K6.o.mono ?_);rintro v b ⟨rfl,rfl⟩);go_roundw
      case rel=>exact⟨_+1,by go_num,aW.o,by first | rfl | trivial,m⟩
      case measure =>
       have:=aW.o
       first | (simp[intOf];done) | (simp[intOf];omega)
    .have e:k=a.rs.length:=by omega
     subst e;have j:=qh (show F=if 6<a.ch.length then 2 else 0 from j.o.trans (by rw[bX];cases Lt a.rs a.rs.length <;> rfl));by_cases h6:6<a.ch.length
     .have m:=qh (j.o.trans (if_pos h6));have ar:(6:Int)<a.ch.length:=by omega
      go_wp2;go_ret;exact⟨ag (by rw[m.o]),s.o⟩
     .have m:=qh (j.o.trans (if_neg h6));have ar:¬ (6:Int)<a.ch.length:=by omega
      go_wp2;go_ret;exact⟨ag (by rw[m.o]),s.o⟩
set_option maxHeartbeats 4000000
set_option maxRecDepth 100000
theorem any_succ {N:List aj} {P:aj->Bool} {k:Nat} (h:k<N.length):(N.take (k+1)).any P=((N.take k).any P || P N[k]):=by
 rw[br h,List.any_append];simp
theorem aeR {N:List aj} {P:aj->Bool} {k:Nat} (h:k<N.length) (a:P N[k]=true):N.any P=true:=bN.2 ⟨N[k],bs h,a⟩
theorem size_any {w:World} {B0 v m1 m2 m3:Nat} {x:nM} {f:bC} {N:List aj} {K:bu} (h:bF w B0 v m1 m2 m3 x f N K) {B:Nat} (z:w.cell? ⟨B,0,none⟩=some (bj (some ⟨v,0,none⟩))) (ab:B<w.heap.size) :
  IE 113 #[bj (some ⟨B,0,none⟩)] w (bf bg (DZ N)):=by
 have L:=h.cap;have wB:=h.nodes.1;have s:w.cell? ⟨v,5,none⟩=some (bi x.AN N.length x.cn):=h.blk.cell 5;have kX:=qh h;obtain⟨AN,J⟩:=af (x.AN);have H:=qh J;have n:=qh (DZ.eq_def N);obtain⟨F,hF⟩:=af (DZ N);rw[hF] at n ⊢;rw[J] at s;clear h J hF;by_cases ahD:300<N.length
 .have G:(300:Int)<N.length:=by omega
  have m:=qh (n.o.trans (if_pos ahD));go_enter Tryz.func113,Tryz.ntmps113;go_wp2;go_ret;exact⟨ag m.o.symm,Below.refl _ _⟩
 have n:=qh (n.o.trans (if_neg ahD));have G:¬ (300:Int)<N.length:=by omega
 go_enter Tryz.func113,Tryz.ntmps113;go_wp2;clear s z;go_loopw [22] (λ i wr=>∃ k:Nat,i = bf bg k/\k<=N.length/\Hid ((N.take k).any (λ d=>decide (12<d.eQ) || decide (3<d.lo.length))=false)/\IY w wr) (λ i _=>302 - (intOf i).toNat)
 case atStart=>exact⟨0,rfl,bq _,qh rfl,Below.refl _ _⟩
 case round =>
  obtain⟨k,rfl,hk,p,q⟩:=hrel;have Y:=q.size;by_cases hlt:k<N.length
  .have l:=qh (aeR (P:=λ d=>decide (12<d.eQ) || decide (3<d.lo.length)) hlt);have o:=qh (any_succ (P:=λ d=>decide (12<d.eQ) || decide (3<d.lo.length)) hlt);have M:=qh (kX.o.keep q);obtain⟨ad,A1,Z,A2,c2,S,U,A4,R,A5,s,B1,b1,B2,b2,B3,b3,A,c,O,Lr,hit,g,y⟩:=M.o.pI hlt;obtain rfl:AN=some ad:=H.o.symm.trans O;obtain⟨d,I⟩:=af (N[k]);rw[I] at y l g hit;obtain⟨cs,a⟩:∃ cs:List Value,[bf bg d.it.k,bh d.it.nm,bi A1 d.it.iff.length Z,bi A2 d.it.ph.length c2,bi S d.it.items.length U,bk d.it.sh,bi A4 d.it.cnt.length R,bh d.it.over,bf bg d.it.ans.k,bf bg d.it.ans.lo,bf bg d.it.ans.hi,bf bg d.it.ans.pl,bh d.it.ans.ls,bi B1 d.it.ans.only.length b1,bk d.it.ans.sh,bi B2 d.it.ans.rs.length b2,bk d.it.ans.need,bi B3 d.it.ans.ch.length b3,bi A5 d.it.cmp.length s,bf bg d.par,bf bg d.mZ,bf bg d.eQ,bi A d.lo.length c]=cs:=⟨_,rfl⟩;have t:cs.length=23:=by subst a;rfl
   have X:=Gq (w:=wr) t (ad:=ad.add (k*23)) (λ j u T=>y j u (by subst a;exact T));have V:=Ot (w:=wr) t (by subst a;simp[bv]);obtain⟨W,r⟩:=aC (wr.alloc (.cells cs.toArray 110 (0,0)));have uJ:IY wr W:=r▸az wr _;have b:=q.trans (uJ.mono Y);have E:ah W wr.heap.size 110 cs.toArray:=r▸ah.new wr _ _;have ac:W.cell? ⟨wr.heap.size,21,none⟩=some (bf bg d.eQ):=by rw[E.cell 21];subst a;rfl
   have aa:W.cell? ⟨wr.heap.size,22,none⟩=some (bi A d.lo.length c):=by rw[E.cell 22];subst a;rfl
   rw[I] at o;have ae:d.lo.length<=1000:=g.2;have Q:=qh hlt;clear a t hit g y Lr M O I E;go_upto_region 6 with (fail);rw[<- r];clear X V r;by_cases h12:12<d.eQ
   .have m:=qh (n.o.trans (if_pos (l.o (by simp[h12]))));go_wp2;go_ret;exact⟨ag m.o.symm,b⟩
   by_cases h3:3<d.lo.length
   .have m:=qh (n.o.trans (if_pos (l.o (by simp[h3]))));have D:(3:Int)<d.lo.length:=by omega
    go_wp2;go_ret;exact⟨ag m.o.symm,b⟩
   .have C:=qh (o.o.trans (by rw[p.o,decide_eq_false h12,decide_eq_false h3]));have D:¬ (3:Int)<d.lo.length:=by omega
    go_wp2;go_roundw
    case rel=>exact⟨k+1,by go_num,Q.o,C,b⟩
    case measure =>
     have:=Q.o;simp[intOf];omega
  .have e:k=N.length:=by omega
   subst e;have p:=qh p.o;rw[List.take_length] at p;have m:=qh (n.o.trans (if_neg (by simp[p.o])));go_wp2;go_ret;exact⟨ag m.o.symm,q⟩
theorem QX {l:List ByteArray} {k:Nat} (h:k<l.length):CX (l.take k) (l.drop k)=if aV l[k].data.toList=false then 5 else if Lib.containsS (l.take k) l[k]=true then 6 else CX (l.take (k+1)) (l.drop (k+1)):=by
 rw[bR h,CX,br h];have e:(l.take k).any (λ p=>decide (p=l[k]))=Lib.containsS (l.take k) l[k]:=by
  rw[Bool.eq_iff_iff,Lib.containsS_iff,bN];exact⟨λ ⟨x,a,e⟩=>of_decide_eq_true e▸a,λ a=>⟨_,a,by simp⟩⟩
 rw[e]
theorem Ym {w:World} {ad:Addr} {cs:List Value} (a:cs.length=5) (b:∀ j u,cs[j]?=some u->w.cell? (ad.add j)=some u):(Df 26 (bj (some ad))).run Tryz.prog w = .ok (.agg cs.toArray) w:=
 yh Tryz.underlying26 rfl (by rw[a];kernel_rfl) b
theorem Yn {w:World} {cs:List Value} (a:cs.length=5) (b:∀ v∈cs,v.oneCell'=true):(JB 26 (bj (some ⟨w.heap.size,0,none⟩)) (.agg cs.toArray)).run Tryz.prog (w.alloc (.cells #[bh ⟨#[]⟩,bf bg 0,bi none 0 0,bi none 0 0,bi none 0 0] 26 (0,0))) = .ok () (w.alloc (.cells cs.toArray 26 (0,0))):=
 yj (by rw[show cs.toArray.size=5 from a];kernel_rfl) (show 5=cs.toArray.size from a.symm) (by rw[<- Array.all_toList];exact bw.2 b)
theorem Yo {w:World} {B0 I m1 m2 m3:Nat} {x:nM} {f:bC} {N:List aj} {K:bu} (h:bF w B0 I m1 m2 m3 x f N K) {L:Nat} (ac:w.cell? ⟨L,0,none⟩=some (bj (some ⟨I,0,none⟩))) (ae:L<w.heap.size) :
  IE 71 #[bj (some ⟨L,0,none⟩)] w (bf bg (qE f)):=by
 have v:=h.form.nm;obtain⟨o,ak,Q,D⟩:=h.form.la;have V:=h.le;have c:=qh (qE.eq_def f);obtain⟨F,hF⟩:=af (qE f);rw[hF] at c ⊢;obtain⟨cs,b⟩:∃ cs:List Value,[bh f.nm,bf bg f.zW,bi x.AL f.bD.length x.cl,bi x.AS f.lists.length x.cs,bi x.AI f.items.length x.ci]=cs:=⟨_,rfl⟩;have P:cs.length=5:=by subst b;rfl
 have T:=Ym (w:=w) P (ad:=⟨I,0,none⟩) (xx (k:=0) h.blk (by subst b;intro j u m;match j,m with | 0,m | 1,m | 2,m | 3,m | 4,m=>(exact m) | j+5,m=>simp at m));have O:=Yn (w:=w) P (by subst b;simp[bv]);obtain⟨W,G⟩:=aC (w.alloc (.cells cs.toArray 26 (0,0)));have a:IY w W:=G▸az w _;have H:ah W w.heap.size 26 cs.toArray:=G▸ah.new w _ _;have q0:W.cell? ⟨w.heap.size,0,none⟩=some (bh f.nm):=by rw[H.cell 0];subst b;rfl
 have q1:W.cell? ⟨w.heap.size,1,none⟩=some (bf bg f.zW):=by rw[H.cell 1];subst b;rfl
 have q2:W.cell? ⟨w.heap.size,2,none⟩=some (bi x.AL f.bD.length x.cl):=by rw[H.cell 2];subst b;rfl
 have E:=qh (bm (Reads.below o (a.mono V)) D);obtain⟨AL,C⟩:=af (x.AL);rw[C] at q2 E;clear C;obtain⟨x1,p⟩:=af (aV f.nm.data.toList);have R:=qh (lU f.nm W v);obtain⟨x2,q⟩:=af (aN f.zW 1 9999);have M:=qh (kM f.zW 1 9999 W);obtain⟨x3,n⟩:=af (aN f.bD.length 1 6);have J:=qh (kM f.bD.length 1 6 W);rw[p] at c R;rw[q] at c M;rw[n] at c J;have Z:=qh n;clear o D H b P hF h v p q n;go_enter Tryz.func71,Tryz.ntmps71;go_upto_region 2 with (fail);rw[<- G];clear T O G;cases x1
 case false =>
  go_wp2_with (go_at_call 23;(with_reducible refine R.o.mono ?_);rintro g l ⟨rfl,rfl⟩);go_ret;exact⟨ag (by rw[c.o];simp),a⟩
 have c:=qh (c.o.trans (if_neg (by decide)));go_upto_region 4 with (go_at_call 23;(with_reducible refine R.o.mono ?_);rintro g l ⟨rfl,rfl⟩);cases x2
 case true =>
  go_wp2_with (go_at_call 30;(with_reducible refine M.o.mono ?_);rintro g l ⟨rfl,rfl⟩);go_ret;exact⟨ag (by rw[c.o];simp),a⟩
 have c:=qh (c.o.trans (if_neg (by decide)));go_upto_region 6 with (go_at_call 30;(with_reducible refine M.o.mono ?_);rintro g l ⟨rfl,rfl⟩);cases x3
 case true =>
  go_wp2_with (go_at_call 30;(with_reducible refine J.o.mono ?_);rintro g l ⟨rfl,rfl⟩);go_ret;exact⟨ag (by rw[c.o];simp),a⟩
 have c:=qh (c.o.trans (if_neg (by decide)));unfold maxLen at Q;go_wp2_with (go_at_call 30;(with_reducible refine J.o.mono ?_);rintro g l ⟨rfl,rfl⟩);go_loopw [27] (λ i wr=>∃ k:Nat,i = bf bg k/\k<=f.bD.length/\wr=W/\Hid (F=CX (f.bD.take k) (f.bD.drop k))) (λ i _=>f.bD.length+1 - (intOf i).toNat)
 case atStart=>exact⟨0,rfl,bq _,rfl,c⟩
 case round =>
  obtain⟨k,rfl,hk,rfl,d⟩:=hrel;by_cases hlt:k<f.bD.length
  .have d:=qh (d.o.trans (QX hlt));have HT:=qh (bV.take E.o.1 k);obtain⟨S,X,e9,z,t⟩:=Reads.plain E.o.1 (by omega);subst e9;have qx:wr.cell? ⟨S,X+k,none⟩=some (bh f.bD[k]):=t k _ (by simp[jq,hlt]);have r:=qh (lU f.bD[k] wr (E.o.2 _ (bs hlt)));have A:=qh (pq (some ⟨S,X,none⟩) x.cl B0 (f.bD.take k) f.bD[k] wr (by rw[bO];unfold maxLen;omega) HT.o);rw[bO,Nat.min_eq_left (by omega)] at A;obtain⟨s,U⟩:=af (f.bD[k]);rw[U] at qx r A d;obtain⟨x4,B⟩:=af (aV s.data.toList);obtain⟨x5,y⟩:=af (Lib.containsS (f.bD.take k) s);rw[B] at r d;rw[y] at A d;have z:S<wr.heap.size:=bt z (bn V a.size);have Y:=qh hlt;have aa:k<=x.cl:=by omega
   clear U B y t;cases x4
   case false =>
    go_wp2_with (go_at_call 23;(with_reducible refine r.o.mono ?_);rintro g l ⟨rfl,rfl⟩);go_ret;exact⟨ag (by rw[d.o];simp),a⟩
   have d:=qh (d.o.trans (if_neg (by decide)));cases x5
   case true =>
    go_wp2_with (first
     | (go_at_call 23;(with_reducible refine r.o.mono ?_);rintro g l ⟨rfl,rfl⟩)
     | (go_at_call 90;(with_reducible refine A.o.mono ?_);rintro g l ⟨rfl,rfl⟩))
    go_ret;exact⟨ag (by rw[d.o];simp),a⟩
   have d:=qh (d.o.trans (if_neg (by decide)));go_wp2_with (first
    | (go_at_call 23;(with_reducible refine r.o.mono ?_);rintro g l ⟨rfl,rfl⟩)
    | (go_at_call 90;(with_reducible refine A.o.mono ?_);rintro g l ⟨rfl,rfl⟩))
   go_roundw
   case rel=>exact⟨k+1,by go_num,Y.o,by first | rfl | trivial,d⟩
   case measure =>
    have:=Y.o;simp[intOf];omega
  .have e:k=f.bD.length:=by omega
   subst e;have HE:=qh (show F=0 from d.o.trans (by rw[bX];rfl));go_wp2;go_ret;exact⟨ag HE.o.symm,a⟩
set_option maxHeartbeats 4000000
set_option maxRecDepth 100000
theorem JG {N:List aj} {L:List fD} {k:Nat} (h:k<N.length):xm N L (N.length+1 - k) k=if qF N L k≠0 then qF N L k else xm N L (N.length+1 - (k+1)) (k+1):=by
 obtain⟨m,a⟩:∃ m,N.length+1 - k=m+1:=⟨N.length - k,by omega⟩;rw[a,show N.length+1 - (k+1)=m by omega,xm,if_pos h]
theorem Yp {N:List aj} {L:List fD}:xm N L (N.length+1 - N.length) N.length=0:=by
 rw[show N.length+1 - N.length=0+1 by omega,xm,if_neg (by omega)]
theorem Yq {N:List aj} {L:List fD} {k:Nat} {d:aj} (h:k<N.length) (a:N[k]=d):qF N L k=if aN d.it.k 1 6=true then 4 else if aV d.it.nm.data.toList=false\/d.it.nm=vU then 5 else if (N.take k).any (λ e=>decide (e.it.nm=d.it.nm))=true then 6 else if yM d.it=true then 3 else
  if (uD N k=true/\(d.it.k=1\/d.it.k=6))\/(uD N k=false/\d.it.k=4) then 7 else if d.it.k=4 then Oi L d.it.ans else 0:=by
 unfold qF;rw[jy h,a]
def JH (kv:List (ByteArray × Value)) (l:List aj):Prop:=kv.length<=l.length/\∀ s,fK kv s=if l.any (λ d=>decide (d.it.nm=s))=true then some (bk true) else none
theorem JH.add {a:List (ByteArray × Value)} {N:List aj} {k:Nat} (h:JH a (N.take k)) (b:k<N.length):JH ((N[k].it.nm,bk true) :: a) (N.take (k+1)):=by
 refine⟨by have:=h.1;simp at this ⊢;omega,λ s=>?_⟩;rw[any_succ b,fK];by_cases e:N[k].it.nm=s
 .simp[e]
 .simp only[e,if_false,decide_false,Bool.or_false];exact h.2 s
theorem JH.get {a:List (ByteArray × Value)} {l:List aj} (h:JH a l) (s:ByteArray):(fK a s).getD (bk false) = bk (l.any (λ d=>decide (d.it.nm=s))):=by
 rw[h.2 s];cases l.any (λ d=>decide (d.it.nm=s)) <;> rfl
theorem akw {s:ByteArray} (h:s=vU):(s.toList == [111,112,116,105,111,110])=true:=by
 subst h;rw[ByteArray.toList_eq];rfl
theorem akx {s:ByteArray} (h:¬ s=vU):(s.toList == [111,112,116,105,111,110])=false:=by
 rw[beq_eq_false_iff_ne];intro e;rw[ByteArray.toList_eq] at e;exact h (ByteArray.ext (Array.toList_inj.1 e))
theorem Yr (w:World):(zeroValue 4).run Tryz.prog w = .ok (bk false) w:=by kernel_rfl
theorem QY {w:World} {B0 gb m1 m2 m3:Nat} {x:nM} {f:bC} {N:List aj} {K:bu} (h:bF w B0 gb m1 m2 m3 x f N K) {Z:Nat} (H:w.cell? ⟨Z,0,none⟩=some (bj (some ⟨gb,0,none⟩))) (av:Z<w.heap.size) (hN:iQ N) :
  IE 73 #[bj (some ⟨Z,0,none⟩)] w (bf bg (jZ N f.lists)):=by
 have ba:=h.cap;have wB:=h.nodes.1;have hB:=h.le;have U:=qh (bm h (bm H (bm av hN)));have UI:=qh (size_any h H av);obtain⟨AN,TC⟩:=af (x.AN);have aE:=qh TC;have HF:=qh (jZ.eq_def N f.lists);obtain⟨F,hF⟩:=af (jZ N f.lists);obtain⟨z,hz⟩:=af (DZ N);rw[hF,hz] at HF;rw[hz] at UI;rw[hF];clear h TC hF hz;by_cases hz0:z=0
 case neg =>
  have l:=qh (HF.o.trans (if_pos hz0));obtain⟨g0,bd⟩:=fU hz0;go_enter Tryz.func73,Tryz.ntmps73;go_wp2_with (go_at_call 113;(with_reducible refine UI.o.mono ?_);rintro y v ⟨rfl,t⟩);go_ret;exact⟨ag l.o.symm,t⟩
 subst hz0;have HF:=qh (HF.o.trans (if_neg (by decide)));go_enter Tryz.func73,Tryz.ntmps73;go_upto_region 4 with (go_at_call 113;(with_reducible refine UI.o.mono ?_);rintro y v ⟨rfl,t⟩);have an:=qh (U.o.1.keep t);have I:=t.size;have c5:v.cell? ⟨gb,5,none⟩=some (bi x.AN N.length x.cn):=an.o.blk.cell 5;rw[aE.o] at c5;have a6:v.cell? ⟨Z,0,none⟩=some (bj (some ⟨gb,0,none⟩)):=Below.cell_of t H;have aR:=@run_makeMap Tryz.prog;have bc:Z<v.heap.size:=by omega
 have be:gb<v.heap.size:=an.o.blk.lt;go_wp2;clear aR;have a3:=qh (aP.made v);clear c5 a6 H;go_loopw [24] (λ i wr=>∃ (k:Nat) (kv:List (ByteArray × Value)),i = bf bg k/\k<=N.length/\Hid (F=xm N f.lists (N.length+1 - k) k)/\Hid (aP wr v.heap.size kv/\JH kv (N.take k))/\IY w wr) (λ i _=>302 - (intOf i).toNat)
 case atStart=>exact⟨0,[],rfl,bq _,HF,qh ⟨a3.o,by simp,λ s=>rfl⟩,t.alloc I _⟩
 case round =>
  obtain⟨k,kv,rfl,hk,HP,HM,hb⟩:=hrel;have hs:=hb.size;by_cases hlt:k<N.length
  .have Dh:=qh (U.o.1.keep hb);obtain⟨ad,A1,c1,A2,c2,A3,c3,A4,c4,A5,c5,B1,b1,B2,b2,B3,b3,A,c,hA,Lr,hit,a1,hc⟩:=Dh.o.pI hlt;obtain rfl:AN=some ad:=aE.o.symm.trans hA;obtain⟨d,hd⟩:=af (N[k]);have a:=qh (Yq (L:=f.lists) hlt hd);have P:=qh (show ∀ c:Int,c≠0->qF N f.lists k=c->F=c from λ c h1 h2=>HP.o.trans ((JG hlt).trans (by rw[h2,if_pos h1])));have ae:=qh (show qF N f.lists k=0->F=xm N f.lists (N.length+1 - (k+1)) (k+1) from λ h2=>HP.o.trans ((JG hlt).trans (by rw[h2];rfl)));have ab:=qh (HM.o.2.add hlt);have uK:=HM.o.1.lt;rw[hd] at hc hit ab;have G:d.it.nm.size<=maxLen:=by cases hit;assumption
   obtain⟨T,E⟩:∃ cs:List Value,[bf bg d.it.k,bh d.it.nm,bi A1 d.it.iff.length c1,bi A2 d.it.ph.length c2,bi A3 d.it.items.length c3,bk d.it.sh,bi A4 d.it.cnt.length c4,bh d.it.over,bf bg d.it.ans.k,bf bg d.it.ans.lo,bf bg d.it.ans.hi,bf bg d.it.ans.pl,bh d.it.ans.ls,bi B1 d.it.ans.only.length b1,bk d.it.ans.sh,bi B2 d.it.ans.rs.length b2,bk d.it.ans.need,bi B3 d.it.ans.ch.length b3,bi A5 d.it.cmp.length c5]=cs:=⟨_,rfl⟩;obtain⟨cs,C⟩:∃ cs:List Value,T ++ [bf bg d.par,bf bg d.mZ,bf bg d.eQ,bi A d.lo.length c]=cs:=⟨_,rfl⟩;have Om:T.length=19:=by subst E;rfl
   have rO:cs.length=23:=by subst C;rw[bQ,Om];rfl
   have Ls:=Gq (w:=wr) rO (ad:=ad.add (k*23)) (λ j u hu=>hc j u (by subst C E;exact hu));have QS:=Ot (w:=wr) rO (by subst C E;simp[bv]);obtain⟨W,hW⟩:=aC (wr.alloc (.cells cs.toArray 110 (0,0)));have uJ:IY wr W:=hW▸az wr _;have bb:=hb.trans (uJ.mono hs);have BW:ah W wr.heap.size 110 cs.toArray:=hW▸ah.new wr _ _;have a5:=yN (w:=W) Om (xx (k:=0) BW (by subst C;intro j u n;rw[Nat.zero_add,List.getElem?_toArray,List.getElem?_append_left (List.getElem?_eq_some_iff.1 n).1];exact n));have a7:=JC (w:=W) Om (by subst E;simp[bv]);obtain⟨W2,M⟩:=aC (W.alloc (.cells T.toArray 59 (0,0)));have a4:IY W W2:=M▸az W _;have Gw:=uJ.trans (a4.mono uJ.size);have b:=hb.trans (Gw.mono hs);have BI:ah W2 W.heap.size 59 T.toArray:=M▸ah.new W _ _;have HS:=qh (show ∀ w',ah w' W.heap.size 59 T.toArray->w'.cell? ⟨W.heap.size,0,none⟩=some (bf bg d.it.k)/\w'.cell? ⟨W.heap.size,1,none⟩=some (bh d.it.nm)/\(Df 59 (bj (some ⟨W.heap.size,0,none⟩))).run Tryz.prog w' = .ok (.agg T.toArray) w'/\(Df 57 (bj (some ⟨W.heap.size,8,none⟩))).run Tryz.prog w' = .ok (.agg [bf bg d.it.ans.k,bf bg d.it.ans.lo,bf bg d.it.ans.hi,bf bg d.it.ans.pl,bh d.it.ans.ls,bi B1 d.it.ans.only.length b1,bk d.it.ans.sh,bi B2 d.it.ans.rs.length b2,bk d.it.ans.need,bi B3 d.it.ans.ch.length b3].toArray) w' from
    λ w' B=>⟨by rw[B.cell 0];subst E;rfl,by rw[B.cell 1];subst E;rfl,yN Om (nI B),yl rfl (xx B (by subst E;intro j u n;match j,n with | 0,n | 1,n | 2,n | 3,n | 4,n | 5,n | 6,n | 7,n | 8,n | 9,n=>(exact n) | j+10,n=>simp at n))⟩)
   have UY:=qh (show ∀ w',IY w w'->w'.cell? ⟨Z,0,none⟩=some (bj (some ⟨gb,0,none⟩)) from λ w' p=>Below.cell_of p U.o.2.1);have KX:=qh (show ∀ w',IY wr w'->(1<=d.it.k/\d.it.k<=6)->Calls Tryz.prog 115 #[.agg T.toArray] w' λ e al=>e = bl (bk (yM d.it))/\IY w' al from λ w' p a9=>by
    rw[<- E];exact U2 (hit.keep (p.mono (bn hB hs))) a9)
   have KA:=qh (show ∀ w',IY w w'->IY wr w'\/True->sK w' B0 d.it.ans B1 b1 B2 b2 B3 b3->Calls Tryz.prog 116 #[bj (some ⟨Z,0,none⟩),.agg [bf bg d.it.ans.k,bf bg d.it.ans.lo,bf bg d.it.ans.hi,bf bg d.it.ans.pl,bh d.it.ans.ls,bi B1 d.it.ans.only.length b1,bk d.it.ans.sh,bi B2 d.it.ans.rs.length b2,bk d.it.ans.need,bi B3 d.it.ans.ch.length b3].toArray] w' λ e al=>e = bl (bf bg (Oi f.lists d.it.ans))/\IY w' al from λ w' p _ ha =>
    Oz (U.o.1.keep p) (UY.o _ p) (bt U.o.2.2.1 p.size) ha)
   have a8:=qh (show sK wr B0 d.it.ans B1 b1 B2 b2 B3 b3 by cases hit;assumption);have KP:=qh (QP (U.o.1.keep b) U.o.2.2.2 k hlt);have aW:=qh hlt;have ng:=qh BI;obtain⟨p0,p1,aM,IX⟩:=HS.o W2 BI;have c0:=UY.o W2 b;have J:=HM.o.1.below Gw uK;clear C E rO Om hit a1 hc Lr Dh hA hd BW BI;go_upto_region 8 with (fail);rw[<- hW];clear Ls QS hW;go_upto_region 9 with (fail);rw[<- M];clear a5 a7 M;obtain⟨pg,ax⟩:=af (uD N k);rw[ax] at KP a;clear ax;go_upto_region 10 with (go_at_call 114;(with_reducible refine KP.o.mono ?_);rintro y v ⟨rfl,rfl⟩);obtain⟨x1,R⟩:=af (aN d.it.k 1 6);have K1:=qh (kM d.it.k 1 6 W2);obtain⟨x2,ar⟩:=af (aV d.it.nm.data.toList);have K2:=qh (lU d.it.nm W2 G);rw[R] at K1 a;rw[ar] at K2 a;have EC:=qh R;clear R ar;cases x1
   case true =>
    have l:=qh (P.o 4 (by decide) (by rw[a.o];simp));go_wp2_with (go_at_call 30;(with_reducible refine K1.o.mono ?_);rintro y v ⟨rfl,rfl⟩);go_ret;exact⟨ag l.o.symm,b⟩
   have a:=qh (a.o.trans (if_neg (by decide)));go_upto_region 12 with (go_at_call 30;(with_reducible refine K1.o.mono ?_);rintro y v ⟨rfl,rfl⟩);cases x2
   case false =>
    have l:=qh (P.o 5 (by decide) (by rw[a.o];simp));go_wp2_with (go_at_call 23;(with_reducible refine K2.o.mono ?_);rintro y v ⟨rfl,rfl⟩);go_ret;exact⟨ag l.o.symm,b⟩
   by_cases ho:d.it.nm=vU
   .have l:=qh (P.o 5 (by decide) (a.o.trans (if_pos (.inr ho))));have go_:=akw ho;clear ho;go_wp2_with (go_at_call 23;(with_reducible refine K2.o.mono ?_);rintro y w9 ⟨rfl,rfl⟩);go_ret;exact⟨ag l.o.symm,b⟩
   have a:=qh (a.o.trans (if_neg (λ h=>h.elim (by decide) ho)));have go_:=akx ho;clear ho;have hl:=J.get Tryz.underlying204 (Yr W2) G;rw[HM.o.2.get d.it.nm] at hl;obtain⟨x3,am⟩:=af ((N.take k).any (λ e=>decide (e.it.nm=d.it.nm)));rw[am] at hl a;clear am;cases x3
   case true =>
    have l:=qh (P.o 6 (by decide) (a.o.trans (if_pos rfl)));go_wp2_with (go_at_call 23;(with_reducible refine K2.o.mono ?_);rintro y w9 ⟨rfl,rfl⟩);go_ret;exact⟨ag l.o.symm,b⟩
   have a:=qh (a.o.trans (if_neg (by decide)));have D:=qh (KX.o W2 Gw (pM EC.o));obtain⟨x4,ay⟩:=af (yM d.it);rw[ay] at D a;clear ay;cases x4
   case true =>
    have l:=qh (P.o 3 (by decide) (a.o.trans (if_pos rfl)));go_wp2_with (first
     | (go_at_call 23;(with_reducible refine K2.o.mono ?_);rintro y w9 ⟨rfl,rfl⟩)
     | (go_at_call 115;(with_reducible refine D.o.mono ?_);rintro y w3 ⟨rfl,r⟩))
    go_ret;exact⟨ag l.o.symm,b.trans (r.mono b.size)⟩
   have a:=qh (a.o.trans (if_neg (by decide)));go_upto_region 18 with (first
     | (go_at_call 23;(with_reducible refine K2.o.mono ?_);rintro y w9 ⟨rfl,rfl⟩)
     | (go_at_call 115;(with_reducible refine D.o.mono ?_);rintro y w3 ⟨rfl,r⟩))
   have o:=b.trans (r.mono b.size);have V:=ng.o.below r ng.o.lt;have aw:=qh (J.below r J.lt);have aD:kv.length<maxLen:=by
    have:=HM.o.2.1;rw[bO] at this;unfold maxLen;omega
   have ao:some W.heap.size≠some v.heap.size:=λ e=>by injection e with e;have:=uJ.size;omega
   have Y:w.heap.size<=w3.heap.size:=o.size;have XL:=(Gw.trans (r.mono Gw.size)).mono (bn hB hs);have a0:=qh XL;clear p0 p1 aM IX c0 hl go_ XL K1 K2 D KX J;obtain⟨p0,p1,-,-⟩:=HS.o w3 V;by_cases h4:d.it.k=4
   .obtain⟨g4,a2⟩:=jk h4;obtain⟨g1,ac⟩:=fU (show ¬ d.it.k=1 by omega);obtain⟨g6,aq⟩:=fU (show ¬ d.it.k=6 by omega);have S:=qh h4;clear h4;cases pg
    case false =>
     have l:=qh (P.o 7 (by decide) (a.o.trans (if_pos (.inr ⟨rfl,S.o⟩))));go_wp2;go_ret;exact⟨ag l.o.symm,o⟩
    have a:=qh (a.o.trans ((if_neg (by rintro (⟨-,h | h⟩ | ⟨h,-⟩) <;> first | (have:=S.o;omega) | cases h)).trans (if_pos S.o)));obtain⟨x5,X⟩:=af (Oi f.lists d.it.ans);rw[X] at a;have ap:=qh (λ (O:World) (m:IY w O) (hr:Below B0 wr O)=>KA.o O m (.inr trivial) (a8.o.keep hr));rw[X] at ap;clear X KA;by_cases h5:x5=0
    case' pos =>
     have l:=qh (ae.o (a.o.trans h5));obtain⟨g5,WO⟩:=jk h5
    case' neg =>
     have l:=qh (P.o _ h5 a.o);obtain⟨g5,WO⟩:=fU h5
    all_goals clear h5
    all_goals
     go_wp2_with (first
      | (at_mapUpdate;refine jr rfl _ _ _ 204 4 rfl Tryz.underlying204 rfl aw.o aD rfl rfl G ?_;intro O Q q;have ak:=V.grown q ao;have m:=o.grown q Y (λ g hg=>by cases hg;exact I);obtain⟨z0,z1,z2,z3⟩:=HS.o O ak;have Es:=qh (bm Q ab.o);have c4:=UY.o O m;have aL:=qh q)
      | (go_at_call 116;(with_reducible refine (ap.o _ m (a0.o.grown aL.o (bn hB Y) (λ g hg=>by cases hg;exact bn hB I))).mono ?_);rintro e5 w5 ⟨rfl,aa⟩))
    .go_ret;exact⟨ag l.o.symm,m.trans (aa.mono m.size)⟩
    go_roundw
    case rel=>exact⟨k+1,_,by go_num,aW.o,l,qh ⟨Es.o.1.below aa Es.o.1.lt,Es.o.2⟩,m.trans (aa.mono m.size)⟩
    case measure =>
     have:=aW.o;simp[intOf];omega
   .obtain⟨g4,a2⟩:=fU h4;have S:=qh h4;clear h4;cases pg
    case' true =>
     by_cases h16:d.it.k=1\/d.it.k=6
     .have l:=qh (P.o 7 (by decide) (a.o.trans (if_pos (.inl ⟨rfl,h16⟩))));by_cases h1:d.it.k=1
      case' pos =>
       obtain⟨g1,ac⟩:=jk h1
      case' neg =>
       obtain⟨g1,ac⟩:=fU h1;obtain⟨g6,aq⟩:=jk (h16.resolve_left h1)
      all_goals clear h1 h16
      all_goals
       go_wp2;go_ret;exact⟨ag l.o.symm,o⟩
     obtain⟨g1,ac⟩:=fU (λ h=>h16 (.inl h));obtain⟨g6,aq⟩:=fU (λ h=>h16 (.inr h));have l:=qh (ae.o (a.o.trans ((if_neg (by rintro (⟨-,h⟩ | ⟨h,-⟩);exact h16 h;cases h)).trans (if_neg S.o))));clear h16
    case' false =>
     have l:=qh (ae.o (a.o.trans ((if_neg (by rintro (⟨h,-⟩ | ⟨-,h⟩);cases h;exact S.o h)).trans (if_neg S.o))))
    all_goals
     go_wp2_with (first
      | (at_mapUpdate;refine jr rfl _ _ _ 204 4 rfl Tryz.underlying204 rfl aw.o aD rfl rfl G ?_;intro O Q q;have ak:=V.grown q ao;have m:=o.grown q Y (λ g hg=>by cases hg;exact I);obtain⟨z0,z1,z2,z3⟩:=HS.o O ak;have Es:=qh (bm Q ab.o);have c4:=UY.o O m;have aL:=qh q)
      | fail)
     go_roundw
     case rel=>exact⟨k+1,_,by go_num,aW.o,l,Es,m⟩
     case measure =>
      have:=aW.o;simp[intOf];omega
  .have e:k=N.length:=by omega
   subst e;have l:=qh (HP.o.trans Yp);go_wp2;go_ret;exact⟨ag l.o.symm,hb⟩
end Go.Proofs.YtcnagconagpkcaaGreatDoor
namespace Go.Proofs.YtcnagconagpkcaaGreatDoor
open Go.RowKit
attribute [local go_sem ↓] Go.wp_at_zero Go.wp_at_succ
def mg (_w:World) (_B:Nat) (d:ByteArray × Int) (cs:List Value):Prop:=cs = [bh d.1,bf bg d.2]
def mM (l:List (ByteArray × Int)):List Value:=l.flatMap (λ d=>[bh d.1,bf bg d.2])
theorem JI:∀ l:List (ByteArray × Int),(mM l).length=l.length*2
 | []=>rfl
 | d :: r=>by
  have:=JI r;unfold mM at *;rw[b0,bQ,this];simp[Nat.succ_mul,Nat.add_comm]
theorem Gx:∀ (l:List (ByteArray × Int)) (i:Nat) (h:i<l.length),((mM l).drop (i*2)).take 2 = [bh l[i].1,bf bg l[i].2]
 | d :: r,0,_=>by simp[mM]
 | d :: r,i+1,h=>by
  have:=Gx r i (by simpa using h);unfold mM at *;rw[b0,show (i+1)*2=2+i*2 by omega,<- List.drop_drop];simpa using this
theorem xA {w:World} {g B:Nat} {t:TypeId} {l:List (ByteArray × Int)} (h:ah w g t (mM l).toArray) (c:g<B) (a:l.length<=maxLen):aB mg 2 w B (some ⟨g,0,none⟩) l:=by
 refine⟨a,mM l,⟨JI l,λ _=>⟨_,rfl,c,λ j u d=>?_⟩⟩,λ i b=>Gx l i b⟩;have e:(⟨g,0,none⟩:Addr).add j=⟨g,j,none⟩:=by unfold Addr.add;split <;> simp_all
 rw[e,h.cell j];simpa using d
def fE:List (ByteArray × Int):=[(⟨#[61]⟩,4),(⟨#[60,62]⟩,5),(⟨#[60]⟩,6),(⟨#[60,61]⟩,7),(⟨#[62]⟩,8),(⟨#[62,61]⟩,9),(⟨#[105,110]⟩,10),(⟨#[104,97,115]⟩,11)]
theorem OA (w:World):Calls Tryz.prog 278 #[] w λ e w'=>∃ ad,e = bl (bi (some ad) 8 8)/\aB mg 2 w' w'.heap.size (some ad) fE/\IY w w':=by
 go_enter Tryz.func278,Tryz.ntmps278;go_wp2_with fail;go_ret;have e:(mM fE).toArray = #[bh ⟨#[61]⟩,bf bg 4,bh ⟨#[60,62]⟩,bf bg 5,bh ⟨#[60]⟩,bf bg 6,bh ⟨#[60,61]⟩,bf bg 7,bh ⟨#[62]⟩,bf bg 8,bh ⟨#[62,61]⟩,bf bg 9,bh ⟨#[105,110]⟩,bf bg 10,bh ⟨#[104,97,115]⟩,bf bg 11]:=by kernel_rfl
 exact⟨_,rfl,xA (t:=359) (by rw[e];exact ah.new w 359 #[bh ⟨#[61]⟩,bf bg 4,bh ⟨#[60,62]⟩,bf bg 5,bh ⟨#[60]⟩,bf bg 6,bh ⟨#[60,61]⟩,bf bg 7,bh ⟨#[62]⟩,bf bg 8,bh ⟨#[62,61]⟩,bf bg 9,bh ⟨#[105,110]⟩,bf bg 10,bh ⟨#[104,97,115]⟩,bf bg 11]) (by simp) (by decide),(Below.refl _ w).alloc (bp _) _⟩
def jf:List (ByteArray × Int):=[(⟨#[43]⟩,15),(⟨#[45]⟩,16)]
theorem Yt (w:World):Calls Tryz.prog 279 #[] w λ e w'=>∃ ad,e = bl (bi (some ad) 2 2)/\aB mg 2 w' w'.heap.size (some ad) jf/\IY w w':=by
 go_enter Tryz.func279,Tryz.ntmps279;go_wp2_with fail;go_ret;have e:(mM jf).toArray = #[bh ⟨#[43]⟩,bf bg 15,bh ⟨#[45]⟩,bf bg 16]:=by kernel_rfl
 exact⟨_,rfl,xA (t:=359) (by rw[e];exact ah.new w 359 #[bh ⟨#[43]⟩,bf bg 15,bh ⟨#[45]⟩,bf bg 16]) (by simp) (by decide),(Below.refl _ w).alloc (bp _) _⟩
def jg:List (ByteArray × Int):=[(⟨#[42]⟩,17),(⟨#[47]⟩,18),(⟨#[109,111,100]⟩,19)]
theorem Yu (w:World):Calls Tryz.prog 280 #[] w λ e w'=>∃ ad,e = bl (bi (some ad) 3 3)/\aB mg 2 w' w'.heap.size (some ad) jg/\IY w w':=by
 go_enter Tryz.func280,Tryz.ntmps280;go_wp2_with fail;go_ret;have e:(mM jg).toArray = #[bh ⟨#[42]⟩,bf bg 17,bh ⟨#[47]⟩,bf bg 18,bh ⟨#[109,111,100]⟩,bf bg 19]:=by kernel_rfl
 exact⟨_,rfl,xA (t:=359) (by rw[e];exact ah.new w 359 #[bh ⟨#[42]⟩,bf bg 17,bh ⟨#[47]⟩,bf bg 18,bh ⟨#[109,111,100]⟩,bf bg 19]) (by simp) (by decide),(Below.refl _ w).alloc (bp _) _⟩
def fF:List (ByteArray × Int):=[(⟨#[97,110,115,119,101,114,101,100]⟩,12),(⟨#[97,115,107,101,100]⟩,13),(⟨#[114,101,97,115,111,110]⟩,14),(⟨#[97,98,115]⟩,21),(⟨#[102,108,111,111,114]⟩,22),(⟨#[114,111,117,110,100]⟩,23),(⟨#[109,105,110]⟩,24),(⟨#[109,97,120]⟩,25),(⟨#[105,102]⟩,26),(⟨#[101,108,115,101]⟩,27),(⟨#[115,105,122,101]⟩,28),(⟨#[99,111,100,101]⟩,29),(⟨#[108,111,119,101,114]⟩,30),(⟨#[106,111,105,110]⟩,31),(⟨#[98,101,103,105,110,115]⟩,32),(⟨#[104,111,108,100,115]⟩,33),(⟨#[121,101,97,114]⟩,34),(⟨#[109,111,110,116,104]⟩,35),(⟨#[100,97,121]⟩,36),(⟨#[100,97,121,115]⟩,37),(⟨#[97,103,101]⟩,38),(⟨#[108,97,116,101,114]⟩,39)]
theorem OB (w:World):Calls Tryz.prog 266 #[] w λ e w'=>∃ ad,e = bl (bi (some ad) 22 22)/\aB mg 2 w' w'.heap.size (some ad) fF/\IY w w':=by
 go_enter Tryz.func266,Tryz.ntmps266;go_wp2_with fail;go_ret;have e:(mM fF).toArray = #[bh ⟨#[97,110,115,119,101,114,101,100]⟩,bf bg 12,bh ⟨#[97,115,107,101,100]⟩,bf bg 13,bh ⟨#[114,101,97,115,111,110]⟩,bf bg 14,bh ⟨#[97,98,115]⟩,bf bg 21,bh ⟨#[102,108,111,111,114]⟩,bf bg 22,bh ⟨#[114,111,117,110,100]⟩,bf bg 23,bh ⟨#[109,105,110]⟩,bf bg 24,bh ⟨#[109,97,120]⟩,bf bg 25,bh ⟨#[105,102]⟩,bf bg 26,bh ⟨#[101,108,115,101]⟩,bf bg 27,bh ⟨#[115,105,122,101]⟩,bf bg 28,bh ⟨#[99,111,100,101]⟩,bf bg 29,bh ⟨#[108,111,119,101,114]⟩,bf bg 30,bh ⟨#[106,111,105,110]⟩,bf bg 31,bh ⟨#[98,101,103,105,110,115]⟩,bf bg 32,bh ⟨#[104,111,108,100,115]⟩,bf bg 33,bh ⟨#[121,101,97,114]⟩,bf bg 34,bh ⟨#[109,111,110,116,104]⟩,bf bg 35,bh ⟨#[100,97,121]⟩,bf bg 36,bh ⟨#[100,97,121,115]⟩,bf bg 37,bh ⟨#[97,103,101]⟩,bf bg 38,bh ⟨#[108,97,116,101,114]⟩,bf bg 39]:=by kernel_rfl
 exact⟨_,rfl,xA (t:=359) (by rw[e];exact ah.new w 359 #[bh ⟨#[97,110,115,119,101,114,101,100]⟩,bf bg 12,bh ⟨#[97,115,107,101,100]⟩,bf bg 13,bh ⟨#[114,101,97,115,111,110]⟩,bf bg 14,bh ⟨#[97,98,115]⟩,bf bg 21,bh ⟨#[102,108,111,111,114]⟩,bf bg 22,bh ⟨#[114,111,117,110,100]⟩,bf bg 23,bh ⟨#[109,105,110]⟩,bf bg 24,bh ⟨#[109,97,120]⟩,bf bg 25,bh ⟨#[105,102]⟩,bf bg 26,bh ⟨#[101,108,115,101]⟩,bf bg 27,bh ⟨#[115,105,122,101]⟩,bf bg 28,bh ⟨#[99,111,100,101]⟩,bf bg 29,bh ⟨#[108,111,119,101,114]⟩,bf bg 30,bh ⟨#[106,111,105,110]⟩,bf bg 31,bh ⟨#[98,101,103,105,110,115]⟩,bf bg 32,bh ⟨#[104,111,108,100,115]⟩,bf bg 33,bh ⟨#[121,101,97,114]⟩,bf bg 34,bh ⟨#[109,111,110,116,104]⟩,bf bg 35,bh ⟨#[100,97,121]⟩,bf bg 36,bh ⟨#[100,97,121,115]⟩,bf bg 37,bh ⟨#[97,103,101]⟩,bf bg 38,bh ⟨#[108,97,116,101,114]⟩,bf bg 39]) (by simp) (by decide),(Below.refl _ w).alloc (bp _) _⟩
theorem dU {w w':World} {B:Nat} {A:Option Addr} {l:List (ByteArray × Int)} (h:aB mg 2 w B A l) (a:Below B w w'):aB mg 2 w' B A l:=aB.keep (w:=w) (w':=w') (λ _ _ h=>h) h a
def tx (l:List UInt8):ByteArray:=⟨l.toArray⟩
theorem Di:(∀ d∈fE,d.1=tx (dS d.2))/\(∀ d∈jf,d.1=tx (dS d.2))/\(∀ d∈jg,d.1=tx (dS d.2)):=by
 refine⟨?_,?_,?_⟩ <;> · intro d a;simp only[fE,jf,jg,b4,List.not_mem_nil,or_false] at a;rcases a with rfl | a <;> first | rfl | (repeat' (first | (rcases a with rfl | a) | subst a)) <;> rfl
theorem Va:∀ d∈fF,d.1=tx (vN d.2):=by
 intro d b;have h:(fF.all λ d=>decide (d.1.data.toList=vN d.2))=true:=by decide
 have a:=bw.1 h d b;rw[decide_eq_true_iff] at a;unfold tx;rw[<- a]
theorem Vb {op:Int} (h:∀ d∈fF,d.2≠op):vN op = []:=by
 have f:∀ p∈wZ,p.1≠op:=by
  intro p a;have c:(wZ.all λ p=>fF.any λ d=>decide (d.2=p.1))=true:=by decide
  have e:=bw.1 c p a;obtain⟨d,g,b⟩:=bN.1 e;rw[decide_eq_true_iff] at b;rw[<- b];exact h d g
 unfold vN;rw[List.find?_eq_none.2 (λ p a=>by simpa using f p a)]
theorem Vd {a:Int} (b:∀ d∈fE,d.2≠a) (c:∀ d∈jf,d.2≠a) (e:∀ d∈jg,d.2≠a):dS a = []:=by
 simp only[fE,jf,jg,List.forall_mem_cons] at b c e;unfold dS;rw[if_neg (by omega),if_neg (by omega),if_neg (by omega),if_neg (by omega),if_neg (by omega),if_neg (by omega),if_neg (by omega),if_neg (by omega),if_neg (by omega),if_neg (by omega),if_neg (by omega),if_neg (by omega),if_neg (by omega)]
theorem LC (j:Int) (w:World):IE 243 #[bf bg j] w (bh (tx (vN j))):=by
 go_enter Tryz.func243,Tryz.ntmps243;go_wp2_with fail;refine (OB w).mono ?_;rintro O W ⟨o,rfl,y,f⟩;have C:=qh y;have g:IY W W:=Below.refl _ _;clear y;go_wp2_with fail;go_loopw [7,4] (λ i _ D=>∃ k:Nat,k<=22/\i = bf bg k/\Hid (∀ d∈fF.take k,d.2≠j)/\IY W D) (λ i _ _=>22 - (intOf i).toNat)
 case atStart=>exact⟨0,bq _,rfl,qh (λ d h=>by simp at h),g⟩
 case round =>
  obtain⟨k,M,rfl,u,c⟩:=hrel;have z:=c.size;by_cases hlt:k<22
  .have b:k<fF.length:=hlt;obtain⟨ad,E,n,H,m,a⟩:=(dU C.o c).at_ b;injection n with n;subst n;obtain⟨d,q⟩:=af (fF[k]);have p:d∈fF:=by rw[<- q];exact bs b
   have t:=qh (show fF.take (k+1)=fF.take k ++ [d] by rw[br b,q]);rw[q] at m;have r:=qh p;have A:=qh hlt;obtain⟨s,l⟩:=d;have I:E = [bh s,bf bg l]:=m;subst I;obtain⟨N,L⟩:=H7 a;have B:(0:Int)<=(k:Nat):=by omega
   have F:(k:Int)<22:=by omega
   clear m a q p H b;by_cases ho:l=j
   .subst ho;have bo:(l == l)=true:=by simp
    have v:=qh (show tx (vN l)=s from (Va _ r.o).symm);go_wp2_with fail;go_ret;exact⟨by rw[v.o];try rfl,f.trans ((c.alloc z _).mono f.size)⟩
   .have bo:(l == j)=false:=by simp[ho]
    have G:=qh (show ∀ d∈fF.take (k+1),d.2≠j by
     rw[t.o];intro x J;rcases bx.1 J with h | h
     .exact u.o x h
     .rw[bA] at h;rw[h];exact ho)
    clear ho;go_wp2_with fail;go_roundw
    case rel=>exact⟨k+1,A.o,by go_num,G,c.alloc z _⟩
    case measure =>
     have:=A.o;simp[intOf];omega
  .have K:=qh (show ∀ d∈fF,d.2≠j by have h:=u.o;rwa [bB (show fF.length<=k by show 22<=k;omega)] at h);clear u;have v:=qh (show tx (vN j)=⟨#[]⟩ by rw[Vb K.o];rfl);go_wp2_with fail;go_ret;exact⟨by rw[v.o];try rfl,f.trans (c.mono f.size)⟩
theorem mP {w:World} {B B':Nat} {A:Option Addr} {l:List (ByteArray × Int)} (h:aB mg 2 w B A l) (d:B<=B'):aB mg 2 w B' A l:=by
 obtain⟨c,cs,b,a⟩:=h;exact⟨c,cs,b.more d,a⟩
theorem QZ (m:Int) (w:World):IE 265 #[bf bg m] w (bh (tx (dS m))):=by
 go_enter Tryz.func265,Tryz.ntmps265;go_wp2_with fail;refine (OA w).mono ?_;rintro en W1 ⟨L,rfl,Z,E⟩;go_wp2_with fail;refine (Yt W1).mono ?_;rintro en W2 ⟨J,rfl,Q,u⟩;go_wp2_with fail;refine (Yu W2).mono ?_;rintro en s ⟨H,rfl,Y,v⟩;have B:=(E.trans (u.mono E.size)).trans (v.mono (bn E.size u.size));have G:=qh (show aB mg 2 s s.heap.size (some L) fE/\aB mg 2 s s.heap.size (some J) jf/\aB mg 2 s s.heap.size (some H) jg from
  ⟨mP (dU (dU Z u) (v.mono u.size)) (bn u.size v.size),mP (dU Q v) v.size,Y⟩)
 clear Z Q Y E u v;go_upto_region 2 with (fail);obtain⟨Wo,F⟩:=aC (s.alloc (.cells #[bi (some L) 8 8,bi (some J) 2 2,bi (some H) 3 3] 356 (0,0)));have K:IY s Wo:=F▸(Below.refl _ s).alloc (bp _) _;have O:ah Wo s.heap.size 356 #[bi (some L) 8 8,bi (some J) 2 2,bi (some H) 3 3]:=F▸ah.new s _ _;rw[<- F];have q:=B.trans (K.mono B.size);have HT:=qh (show aB mg 2 Wo Wo.heap.size (some L) fE/\aB mg 2 Wo Wo.heap.size (some J) jf/\aB mg 2 Wo Wo.heap.size (some H) jg from
  ⟨mP (dU G.o.1 K) K.size,mP (dU G.o.2.1 K) K.size,mP (dU G.o.2.2 K) K.size⟩)
 have aa:=qh O;clear F K O G B;go_loopw [12,4,6,18] (λ i _ _ _ wo=>∃ n:Nat,n<=3/\i = bf bg n/\Hid ((0<n->∀ d∈fE,d.2≠m)/\(1<n->∀ d∈jf,d.2≠m)/\(2<n->∀ d∈jg,d.2≠m))/\IY Wo wo) (λ i _ _ _ _=>3 - (intOf i).toNat)
 case atStart=>exact⟨0,by omega,rfl,qh ⟨λ h=>by omega,λ h=>by omega,λ h=>by omega⟩,Below.refl _ _⟩
 case round =>
  obtain⟨n,hn,rfl,p,o⟩:=hrel;have O:=aa.o.below o aa.o.lt;have al:wr.cell? ⟨s.heap.size,0,none⟩=some (bi (some L) 8 8):=O.cell 0;have am:wr.cell? ⟨s.heap.size,1,none⟩=some (bi (some J) 2 2):=O.cell 1;have ak:wr.cell? ⟨s.heap.size,2,none⟩=some (bi (some H) 3 3):=O.cell 2;clear O;obtain rfl | rfl | rfl | rfl:n=0\/n=1\/n=2\/n=3:=by omega
  .skip
   have V:=qh (dU HT.o.1 o);have f:IY wr wr:=Below.refl _ _;have C:=qh (mP V.o o.size);go_wp2_with fail;go_loopw [18,6] (λ i _ T=>∃ k:Nat,k<=8/\i = bf bg k/\Hid (∀ d∈fE.take k,d.2≠m)/\IY wr T) (λ i _ _=>8 - (intOf i).toNat)
   case atStart=>exact⟨0,bq _,rfl,qh (λ d h=>by simp at h),f⟩
   case round =>
    obtain⟨k,hk,rfl,z,c⟩:=hrel;have I:=c.size;by_cases hlt:k<8
    .have b:k<fE.length:=hlt;obtain⟨ad,P,j,R,l,a⟩:=(dU C.o c).at_ b;injection j with j;subst j;obtain⟨d,t⟩:=af (fE[k]);have r:d∈fE:=by rw[<- t];exact bs b
     have A:=qh (show fE.take (k+1)=fE.take k ++ [d] by rw[br b,t]);rw[t] at l;have y:=qh r;have M:=qh hlt;obtain⟨D,g⟩:=d;have zA:P = [bh D,bf bg g]:=l;subst zA;obtain⟨kC,kT⟩:=H7 a;have W:(0:Int)<=(k:Nat):=by omega
     have U:(k:Int)<8:=by omega
     clear l a t r R b;by_cases ho:g=m
     .subst ho;have bo:(g == g)=true:=by simp
      have N:=qh (show tx (dS g)=D from (Di.1 _ y.o).symm);go_wp2_with fail;go_ret;exact⟨by rw[N.o];try rfl,q.trans ((o.trans ((c.alloc I _).mono o.size)).mono q.size)⟩
     .have bo:(g == m)=false:=by simp[ho]
      have X:=qh (show ∀ d∈fE.take (k+1),d.2≠m by
       rw[A.o];intro x hx;rcases bx.1 hx with h | h
       .exact z.o x h
       .rw[bA] at h;rw[h];exact ho)
      clear ho;go_wp2_with fail;go_roundw
      case rel=>exact⟨k+1,M.o,by go_num,X,c.alloc I _⟩
      case measure =>
       have:=M.o;simp[intOf];omega
    .have S:=qh (show ∀ d∈fE,d.2≠m by have h:=z.o;rwa [bB (show fE.length<=k by show 8<=k;omega)] at h);clear z;have ab:=S;go_wp2_with fail;go_roundw
     case rel=>exact⟨0+1,by omega,by rfl,qh ⟨λ _=>ab.o,λ h=>p.o.2.1 (by omega),λ h=>p.o.2.2 (by omega)⟩,(o.trans (c.mono o.size))⟩
     case measure=>simp[intOf]
  .skip
   have V:=qh (dU HT.o.2.1 o);have f:IY wr wr:=Below.refl _ _;have C:=qh (mP V.o o.size);go_wp2_with fail;go_loopw [18,6] (λ i _ T=>∃ k:Nat,k<=2/\i = bf bg k/\Hid (∀ d∈jf.take k,d.2≠m)/\IY wr T) (λ i _ _=>2 - (intOf i).toNat)
   case atStart=>exact⟨0,bq _,rfl,qh (λ d h=>by simp at h),f⟩
   case round =>
    obtain⟨k,hk,rfl,z,c⟩:=hrel;have I:=c.size;by_cases hlt:k<2
    .have b:k<jf.length:=hlt;obtain⟨ad,P,j,R,l,a⟩:=(dU C.o c).at_ b;injection j with j;subst j;obtain⟨d,t⟩:=af (jf[k]);have r:d∈jf:=by rw[<- t];exact bs b
     have A:=qh (show jf.take (k+1)=jf.take k ++ [d] by rw[br b,t]);rw[t] at l;have y:=qh r;have M:=qh hlt;obtain⟨D,g⟩:=d;have zA:P = [bh D,bf bg g]:=l;subst zA;obtain⟨kC,kT⟩:=H7 a;have W:(0:Int)<=(k:Nat):=by omega
     have U:(k:Int)<2:=by omega
     clear l a t r R b;by_cases ho:g=m
     .subst ho;have bo:(g == g)=true:=by simp
      have N:=qh (show tx (dS g)=D from (Di.2.1 _ y.o).symm);go_wp2_with fail;go_ret;exact⟨by rw[N.o];try rfl,q.trans ((o.trans ((c.alloc I _).mono o.size)).mono q.size)⟩
     .have bo:(g == m)=false:=by simp[ho]
      have X:=qh (show ∀ d∈jf.take (k+1),d.2≠m by
       rw[A.o];intro x hx;rcases bx.1 hx with h | h
       .exact z.o x h
       .rw[bA] at h;rw[h];exact ho)
      clear ho;go_wp2_with fail;go_roundw
      case rel=>exact⟨k+1,M.o,by go_num,X,c.alloc I _⟩
      case measure =>
       have:=M.o;simp[intOf];omega
    .have S:=qh (show ∀ d∈jf,d.2≠m by have h:=z.o;rwa [bB (show jf.length<=k by show 2<=k;omega)] at h);clear z;have ac:=S;go_wp2_with fail;go_roundw
     case rel=>exact⟨1+1,by omega,by rfl,qh ⟨λ h=>p.o.1 (by omega),λ _=>ac.o,λ h=>p.o.2.2 (by omega)⟩,(o.trans (c.mono o.size))⟩
     case measure=>simp[intOf]
  .skip
   have V:=qh (dU HT.o.2.2 o);have f:IY wr wr:=Below.refl _ _;have C:=qh (mP V.o o.size);go_wp2_with fail;go_loopw [18,6] (λ i _ T=>∃ k:Nat,k<=3/\i = bf bg k/\Hid (∀ d∈jg.take k,d.2≠m)/\IY wr T) (λ i _ _=>3 - (intOf i).toNat)
   case atStart=>exact⟨0,bq _,rfl,qh (λ d h=>by simp at h),f⟩
   case round =>
    obtain⟨k,hk,rfl,z,c⟩:=hrel;have I:=c.size;by_cases hlt:k<3
    .have b:k<jg.length:=hlt;obtain⟨ad,P,j,R,l,a⟩:=(dU C.o c).at_ b;injection j with j;subst j;obtain⟨d,t⟩:=af (jg[k]);have r:d∈jg:=by rw[<- t];exact bs b
     have A:=qh (show jg.take (k+1)=jg.take k ++ [d] by rw[br b,t]);rw[t] at l;have y:=qh r;have M:=qh hlt;obtain⟨D,g⟩:=d;have zA:P = [bh D,bf bg g]:=l;subst zA;obtain⟨kC,kT⟩:=H7 a;have W:(0:Int)<=(k:Nat):=by omega
     have U:(k:Int)<3:=by omega
     clear l a t r R b;by_cases ho:g=m
     .subst ho;have bo:(g == g)=true:=by simp
      have N:=qh (show tx (dS g)=D from (Di.2.2 _ y.o).symm);go_wp2_with fail;go_ret;exact⟨by rw[N.o];try rfl,q.trans ((o.trans ((c.alloc I _).mono o.size)).mono q.size)⟩
     .have bo:(g == m)=false:=by simp[ho]
      have X:=qh (show ∀ d∈jg.take (k+1),d.2≠m by
       rw[A.o];intro x hx;rcases bx.1 hx with h | h
       .exact z.o x h
       .rw[bA] at h;rw[h];exact ho)
      clear ho;go_wp2_with fail;go_roundw
      case rel=>exact⟨k+1,M.o,by go_num,X,c.alloc I _⟩
      case measure =>
       have:=M.o;simp[intOf];omega
    .have S:=qh (show ∀ d∈jg,d.2≠m by have h:=z.o;rwa [bB (show jg.length<=k by show 3<=k;omega)] at h);clear z;have ae:=S;go_wp2_with fail;go_roundw
     case rel=>exact⟨2+1,by omega,by rfl,qh ⟨λ h=>p.o.1 (by omega),λ h=>p.o.2.1 (by omega),λ _=>ae.o⟩,(o.trans (c.mono o.size))⟩
     case measure=>simp[intOf]
  .have N:=qh (show tx (dS m)=⟨#[]⟩ by rw[Vd (p.o.1 (by omega)) (p.o.2.1 (by omega)) (p.o.2.2 (by omega))];rfl);go_wp2_with fail;go_ret;exact⟨by rw[N.o];try rfl,q.trans (o.mono q.size)⟩
end Go.Proofs.YtcnagconagpkcaaGreatDoor
namespace Go.Proofs.YtcnagconagpkcaaGreatDoor.Vtx
open Go.Lib Dig
theorem Et (l:List UInt8) (c:UInt8):∃ k,l=trimRightB l c ++ b5 k c:=by
 have h:=List.takeWhile_append_dropWhile (p:=λ b:UInt8=>b == c) (l:=l.reverse);have d:l=(l.reverse.dropWhile (· == c)).reverse ++ (l.reverse.takeWhile (· == c)).reverse:=by
  have:=congrArg List.reverse h;rw[List.reverse_append,List.reverse_reverse] at this;exact this.symm
 refine⟨(l.reverse.takeWhile (· == c)).length,?_⟩;have a:(l.reverse.takeWhile (· == c)).reverse=b5 (l.reverse.takeWhile (· == c)).length c:=by
  rw[List.eq_replicate_iff];refine⟨by simp,λ b e=>?_⟩;have:=bw.1 (List.all_takeWhile (p:=λ b:UInt8=>b == c) (l:=l.reverse)) b (List.mem_reverse.1 e);simpa using this
 rw[<- a];exact d
theorem OE {m:Nat} (h:m<10000):XZ (jC m) 4=pF 4 m/\(jC m).length<=4:=by
 have c:(decDigits m).length<=4:=iK 3 m h;obtain⟨k,b⟩:=Et (pF 4 m) 48;have a:=uA c;have e:=congrArg List.length b;rw[a] at e;simp only[bQ,List.length_replicate] at e;unfold XZ jC;refine⟨?_,by omega⟩;rw[show 4 - (trimRightB (pF 4 (m:Int)) 48).length=k by omega];exact b.symm
theorem JJ {n:Int} (c : -999999999999999<=n) (d:n<=999999999999999):∃ F M:Nat,F<=99999999999/\M<10000/\oO n=((F*10000+M:Nat):Int) /\
  qR n=(if n<0 then [45] else []) ++ decDigits F ++ (if jC M = [] then [] else 46 :: jC M):=by
 have e:0<=oO n/\oO n<=999999999999999:=by unfold oO;split <;> omega
 refine⟨(oO n).toNat / 10000,(oO n).toNat % 10000,by omega,by omega,by omega,?_⟩;have a:oO n / 10000=(((oO n).toNat / 10000:Nat):Int):=by omega
 have b:oO n % 10000=(((oO n).toNat % 10000:Nat):Int):=by omega
 unfold qR;rw[a,b,lK]
theorem Ba (F:Nat):∃ b r,decDigits F=b :: r/\dQ b:=by
 cases h:decDigits F with
 | nil=>exact absurd h (KZ F)
 | cons b r=>exact⟨b,r,rfl,x8 F b (by rw[h];exact bE ..)⟩
theorem Yv {b:UInt8} (h:dQ b) {c:UInt8} (a:¬ dQ c):b≠c:=λ e=>a (e▸h)
theorem Ve {l:List UInt8} {b:UInt8} {r:List UInt8} (e:l=b :: r) (h:dQ b):hasPrefix l [45]=false:=by
 subst e;simp[hasPrefix,bK];exact λ e=>Yv h X3 e.symm
theorem Q3 {l:List UInt8} {b:UInt8} {r:List UInt8} (e:l=b :: r) (h:dQ b):trimPrefix l [45]=l:=by
 unfold trimPrefix;rw[Ve e h];simp
theorem Q4 (l:List UInt8):trimPrefix ([45] ++ l) [45]=l/\hasPrefix ([45] ++ l) [45]=true:=by
 have h:hasPrefix ([45] ++ l) [45]=true:=by simp[hasPrefix,bK]
 exact⟨by unfold trimPrefix;rw[if_pos h];rfl,h⟩
theorem ab2 (F M:Nat):(cut (decDigits F ++ (if jC M = [] then [] else 46 :: jC M)) [46]).1=decDigits F/\(cut (decDigits F ++ (if jC M = [] then [] else 46 :: jC M)) [46]).2.1=jC M:=by
 have hF:(46:UInt8) ∉ decDigits F:=La (x8 F) ake;by_cases h:jC M = []
 .rw[if_pos h,List.append_nil,X5 hF,h];exact⟨rfl,rfl⟩
 .rw[if_neg h,aeE _ hF];exact⟨rfl,rfl⟩
theorem Yw {n:Int} (i : -999999999999999<=n) (f:n<=999999999999999):jR (qR n)=some n:=by
 obtain⟨F,M,hF,a,c,e⟩:=JJ i f;obtain⟨p,g⟩:=ab2 F M;obtain⟨l,q⟩:=OE a;have d:=CQ (n:=F) (by have:=iK 10 F (by omega);omega);have k:=yc (w:=4) (n:=M) (iK 3 M a) (by decide);have j:=uA (w:=4) (n:=M) (iK 3 M a);have key:∀ s,trimPrefix s [45]=decDigits F ++ (if jC M = [] then [] else 46 :: jC M)->jR s=some (if (decDigits F ++ (if jC M = [] then [] else 46 :: jC M)).length<s.length then -((F*10000+M:Nat):Int) else ((F*10000+M:Nat):Int)):=by
  intro s o;unfold jR;simp only[o,p,g,l,d,k,j];rw[if_pos ⟨trivial,trivial,by decide,hF⟩]
 by_cases hn:n<0
 .rw[if_pos hn,List.append_assoc] at e;rw[key _ (by rw[e];exact (Q4 _).1),e,if_pos (by simp),<- c];unfold oO;rw[if_pos hn];simp
 .rw[if_neg hn,List.nil_append] at e;obtain⟨b,r,h,m⟩:=Ba F;rw[key _ (by rw[e];exact Q3 (by rw[h];rfl) m),e,if_neg (by omega),<- c];unfold oO;rw[if_neg hn]
theorem sO {c:Int} (h:0<=c):iM c=35 :: decDigits c.toNat:=by
 unfold iM;obtain⟨m,rfl⟩:∃ m:Nat,c=m:=⟨c.toNat,by omega⟩;rw[lK];simp
theorem ab3 {c:Int} (h:0<=c) {x:UInt8} (b:¬ dQ x) (a:x≠35):x ∉ iM c:=by
 rw[sO h];intro d;rcases b4.1 d with e | e
 .exact a e
 .exact b (x8 _ x e)
theorem aeW (l:List UInt8):trimPrefix (35 :: l) [35]=l:=by simp[trimPrefix,hasPrefix,bK]
theorem Gy:∀ {l:List Int},(∀ c∈l,1<=c/\c<=999)->oh (l.map iM)=some l
 | [],_=>rfl
 | c :: r,h=>by
  have d:=h c (bE ..);have b:=CQ (n:=c.toNat) (by have:=iK 2 c.toNat (by omega);omega);simp only[bL,oh];rw[sO (by omega),aeW,b,if_pos rfl,Gy (λ x a=>h x (b6 _ a))];simp;omega
theorem Q5 {c:Int} {r:List Int} (h:∀ x∈c :: r,1<=x/\x<=999):(∃ t,join ((c :: r).map iM) [44]=35 :: t)/\(∃ t b,join ((c :: r).map iM) [44]=t ++ [b]/\dQ b):=by
 have i:∀ (c:Int),1<=c->∃ t b,iM c=t ++ [b]/\dQ b:=by
  intro c k;rw[sO (by omega)];have a:=KZ c.toNat;refine⟨35 :: (decDigits c.toNat).dropLast,(decDigits c.toNat).getLast a,?_,x8 _ _ (List.getLast_mem a)⟩;rw[b7,List.dropLast_concat_getLast]
 constructor
 .rw[bL,join_cons,sO (by have:=h c (bE ..);omega)];exact⟨_,rfl⟩
 .induction r generalizing c with
  | nil =>
   rw[bL,List.map_nil,join_one];exact i c (h c (bE ..)).1
  | cons d r ih =>
   obtain⟨t,b,e,j⟩:=ih (c:=d) (λ x f=>h x (b6 _ f));have g:join ((c :: d :: r).map iM) [44]=iM c ++ 44 :: join ((d :: r).map iM) [44]:=by
    simp only[bL];rw[join_cons,join_cons];simp[joinTail]
   rw[g,e];exact⟨iM c ++ 44 :: t,b,by simp,j⟩
theorem Vf (l:List Int):Gf (Az l)=join (l.map iM) [44]:=by
 unfold Gf Az;have a:trimPrefix (123 :: join (l.map iM) [44] ++ [125]) [123]=join (l.map iM) [44] ++ [125]:=by simp[trimPrefix,hasPrefix,bK]
 rw[a];have b:hasSuffix (join (l.map iM) [44] ++ [125]) [125]=true:=by
  unfold hasSuffix;rw[b9];exact⟨_,rfl⟩
 unfold trimSuffix;rw[if_pos b];simp
theorem Yx {l:List Int} (h:∀ c∈l,1<=c/\c<=999):∀ p∈l.map iM,(44:UInt8) ∉ p:=by
 intro p a;obtain⟨c,b,rfl⟩:=List.mem_map.1 a;exact ab3 (by have:=h c b;omega) akf (by decide)
theorem Yy {l:List Int} (h:∀ c∈l,1<=c/\c<=999):jS (Az l)=some l:=by
 unfold jS;rw[Vf];cases l with
 | nil=>rfl
 | cons c r =>
  obtain⟨⟨t,a⟩,-⟩:=Q5 h;rw[if_neg (by rw[a];simp),Gh (by simp) (Yx h),Gy h]
theorem JK {n:Int} (f : -25567<=n) (g:n<=84005):∃ y m d:Nat,Cal.cy n=y/\Cal.cm n=m/\Cal.cd n=d/\y<10000/\m<100/\d<100/\Cal.lW y m d=true/\Cal.num y m d=n:=by
 have h:=Cal.Oa f g;have l:=Cal.zn f g h.year.1 h.year.2;have p:=Cal.FV (Cal.cy n) (Cal.cm n);have j:=h.m1;have k:=h.m2;have o:=h.d1;have i:=h.d2;have b:Cal.lW (Cal.cy n) (Cal.cm n) (Cal.cd n)=true:=by rw[Cal.uy];exact⟨l,⟨h.m1,h.m2⟩,h.d1,h.d2⟩
 have c:Cal.cy n=((Cal.cy n).toNat:Int):=by omega
 have e:Cal.cm n=((Cal.cm n).toNat:Int):=by omega
 have a:Cal.cd n=((Cal.cd n).toNat:Int):=by omega
 refine⟨(Cal.cy n).toNat,(Cal.cm n).toNat,(Cal.cd n).toNat,c,e,a,by omega,by omega,by omega,?_,?_⟩
 .rw[<- c,<- e,<- a];exact b
 .rw[<- c,<- e,<- a];exact h.eq
theorem Yz {n:Int} (i : -25567<=n) (c:n<=84005):jw (zo n).tail=some n:=by
 obtain⟨y,m,d,l,h,b,q,g,o,a,p⟩:=JK i c;have f:=iK 3 y q;have j:=iK 1 m g;have k:=iK 1 d o;have e:(zo n).tail=pF 4 y ++ 45 :: (pF 2 m ++ 45 :: pF 2 d):=by
  unfold zo;rw[l,h,b];simp
 unfold jw;rw[e,Gg _ (La (EH 4 y) X3),Gg _ (La (EH 2 m) X3),Jv (La (EH 2 d) X3)];simp only[yc f (by decide),yc j (by decide),yc k (by decide)];rw[if_pos (by simp[a]),p]
theorem YA {n:Int} (d : -999999999999999<=n) (f:n<=999999999999999):∃ b r,qR n=b :: r/\(dQ b\/(b=45/\∃ c t,r=c :: t)):=by
 obtain⟨F,M,hF,h,i,e⟩:=JJ d f;obtain⟨b,r,a,g⟩:=Ba F;by_cases hn:n<0
 .rw[if_pos hn,a] at e;exact⟨45,_,by rw[e];rfl,.inr ⟨rfl,_,_,rfl⟩⟩
 .rw[if_neg hn,a] at e;exact⟨b,_,by rw[e];rfl,.inl g⟩
theorem ab4 {n:Int} (a : -999999999999999<=n) (d:n<=999999999999999):qR n≠[]/\qR n≠[45]/\qR n≠qX/\qR n≠nH/\(qR n).head?≠some 39/\(qR n).head?≠some 35/\(qR n).head?≠some 123/\(qR n).head?≠some 64/\qR n≠w1T/\qR n≠w2T/\qR n≠w3T:=by
 obtain⟨b,r,e,h⟩:=YA a d;rw[e];have f:∀ c:UInt8,¬ dQ c->c≠45->b≠c:=by
  intro c o i l;rcases h with h | ⟨h,-⟩
  .exact o (l▸h)
  .exact i (l▸h)
 have k:∀ c:UInt8,¬ dQ c->c≠45->∀ t,b :: r≠c :: t:=λ c a d t e=>f c a d (List.cons.inj e).1;have g:∀ c:UInt8,¬ dQ c->c≠45->(b :: r).head?≠some c:=λ c a d e=>f c a d (by simpa using e);refine⟨by simp,?_,k _ (by unfold dQ;decide) (by decide) _,k _ (by unfold dQ;decide) (by decide) _,g _ (by unfold dQ;decide) (by decide),g _ (by unfold dQ;decide) (by decide),g _ (by unfold dQ;decide) (by decide),g _ (by unfold dQ;decide) (by decide),k _ (by unfold dQ;decide) (by decide) _,k _ (by unfold dQ;decide) (by decide) _,k _ (by unfold dQ;decide) (by decide) _⟩;intro j;rcases h with h | ⟨-,c,t,m⟩
 .exact X3 ((List.cons.inj j).1▸h)
 .rw[m] at j;cases (List.cons.inj j).2
theorem Vg (s:List UInt8):trimSuffix (replaceAll s [39] [39,39] ++ [39]) [39]=replaceAll s [39] [39,39]:=by
 have a:hasSuffix (replaceAll s [39] [39,39] ++ [39]) [39]=true:=by
  unfold hasSuffix;rw[b9];exact⟨_,rfl⟩
 unfold trimSuffix;rw[if_pos a];simp
theorem uN {k n:Int} {s:List UInt8} {l:List Int} (h:WM k n s l):dC (showT k n s l)=some ⟨k,n,s,l⟩:=by
 cases h with
 | none_=>decide +kernel
 | word h1 h2 =>
  obtain rfl | rfl | rfl:n=1\/n=2\/n=3:=by omega
  all_goals rfl
 | num h1 h2 =>
  obtain⟨j,p,m,c,i,f,g,d,q,b,a⟩:=ab4 h1 h2;show dC (qR n)=_;unfold dC;rw[if_neg j,if_neg p,if_neg m,if_neg c,if_neg i,if_neg f,if_neg g,if_neg d,if_neg q,if_neg b,if_neg a,Yw h1 h2];rfl
 | text s =>
  show dC (Oc s)=_;unfold dC Oc;rw[if_neg (by simp),if_neg (by simp),if_neg (by simp[qX]),if_neg (by simp[nH]),if_pos (by simp)];simp only[b7,ca];rw[Vg,back]
 | code h1 h2 =>
  show dC (iM n)=_;have o:=CQ (n:=n.toNat) (by have:=iK 2 n.toNat (by omega);omega);rw[sO (by omega)];unfold dC;rw[if_neg (by simp),if_neg (by simp),if_neg (by simp[qX]),if_neg (by simp[nH]),if_neg (by simp),if_pos (by simp)];simp only[ca,o,if_true];rw[show ((n.toNat:Nat):Int)=n by omega]
 | set h =>
  show dC (Az l)=_;have e:(Az l).head?=some 123:=by simp[Az]
  unfold dC;rw[if_neg (by simp[Az]),if_neg (by simp[Az]),if_neg (by simp[Az,qX]),if_neg (by simp[Az,nH]),if_neg (by rw[e];simp),if_neg (by rw[e];simp),if_pos e,Yy h];rfl
 | day h1 h2 =>
  show dC (zo n)=_;have e:(zo n).head?=some 64:=by simp[zo]
  unfold dC;rw[if_neg (by simp[zo]),if_neg (by simp[zo]),if_neg (by simp[zo,qX]),if_neg (by simp[zo,nH]),if_neg (by rw[e];simp),if_neg (by rw[e];simp),if_neg (by rw[e];simp),if_pos e,Yz h1 h2];rfl
 | bool h1 h2 =>
  obtain rfl | rfl:n=0\/n=1:=by omega
  all_goals rfl
end Go.Proofs.YtcnagconagpkcaaGreatDoor.Vtx
