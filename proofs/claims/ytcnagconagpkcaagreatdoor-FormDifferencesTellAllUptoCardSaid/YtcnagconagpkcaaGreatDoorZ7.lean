/- Lemmas. -/
import Derived.Test.YtcnagconagpkcaaGreatDoorZ6
set_option maxHeartbeats 4000000
set_option maxRecDepth 100000
open Go.Value renaming int->bb, string->bd, slice->be, pointer->bf, bool->bg, oneCell'->bq
open Go.IntKind renaming i64->bc
open Go.Ending renaming returned->bh
open And renaming intro->bi
open Nat renaming le_trans->bj, le_refl->bk, zero_le->bl, lt_of_lt_of_le->bp
open List renaming take_succ_eq_append_getElem->bm, getElem_mem->bn, all_eq_true->br, mem_append->bs, mem_singleton->bt, take_of_length_le->bv, mem_cons_self->bw, isPrefixOf->bx, map_cons->bA, any_eq_true->bB, length_take->bE, length_append->bK, drop_eq_getElem_cons->bL, getElem?_eq_getElem->bN, drop_length->bO, flatMap_cons->bR, mem_cons->bS, replicate->bT, mem_cons_of_mem->bX, cons_append->b0, isSuffixOf_iff_suffix->b4, tail_cons->b5
namespace Go.Proofs.YtcnagconagpkcaaGreatDoor
open Go.RowKit
attribute [local go_sem ↓] Go.wp_at_zero Go.wp_at_succ
attribute [local go_sem ↓] ld_item st_item ld_node st_node ld_ans st_ans ld_part st_part ld_rule st_rule ld_form st_form
set_option maxHeartbeats 4000000
set_option maxRecDepth 100000
def JR (l:List Int):Nat->Option Int
 | 0=>none
 | k+1=>l[k]?
theorem UL {l:List Int} {k:Nat} (h:k<l.length):Dl (JR l k) (l.drop k)=if (match JR l k with | some p=>decide (l[k]<=p) | none=>false) then 7 else if bu l[k] 1 3=true then 1 else Dl (JR l (k+1)) (l.drop (k+1)):=by
 rw[bL h];simp only[Dl];rw[show JR l (k+1)=some l[k] from bN h];cases JR l k <;> rfl
def Dq (a:jS) (r:Int):Int:=if r≠0 then r else if 6<a.ch.length then 2 else 0
theorem SI (w:World):(zeroValue 92).run Tryz.prog w = .ok (.agg #[bd ⟨#[]⟩,be none 0 0]) w:=by kernel_rfl
theorem ND {w:World} {B0 G m1 O m3:Nat} {x:ku} {f:aG} {N:List ah} {K:aV} (h:aJ w B0 G m1 O m3 x f N K) {T:Nat} (aa:w.cell? ⟨T,0,none⟩=some (bf (some ⟨G,0,none⟩))) (aA:T<w.heap.size) {a:jS} {B1:Option Addr} {b1:Nat} {B2:Option Addr} {b2:Nat} {B3:Option Addr} {b3:Nat} (ha:nI w B0 a B1 b1 B2 b2 B3 b3) :
  CS 116 #[bf (some ⟨T,0,none⟩),.agg (Bd a B1 b1 B2 b2 B3 b3)] w (bb bc (Nh f.lists a)):=by
 obtain⟨kv,hm,hk⟩:=h.ls;have hB:=h.le;have ap:=ha.h3.1;have av:=ha.l4;unfold maxLen at av ap;have aw:=ha.l5;have wE:w.cell? ⟨G,7,none⟩=some (.map (some O)):=h.blk.cell 7;obtain⟨W,hW⟩:=aH (w.alloc (.cells (Bd a B1 b1 B2 b2 B3 b3) 57 (0,0)));have d:EG w W:=hW▸aB w _;have q:ag W w.heap.size 57 (Bd a B1 b1 B2 b2 B3 b3):=hW▸ag.new w _ _;have q0:W.cell? ⟨w.heap.size,0,none⟩=some (bb bc a.k):=q.cell 0;have q1:W.cell? ⟨w.heap.size,1,none⟩=some (bb bc a.lo):=q.cell 1;have Z:W.cell? ⟨w.heap.size,2,none⟩=some (bb bc a.hi):=q.cell 2;have q3:W.cell? ⟨w.heap.size,3,none⟩=some (bb bc a.pl):=q.cell 3;have X:W.cell? ⟨w.heap.size,4,none⟩=some (bd a.ls):=q.cell 4;have q5:W.cell? ⟨w.heap.size,5,none⟩=some (be B1 a.only.length b1):=q.cell 5;have q6:W.cell? ⟨w.heap.size,6,none⟩=some (bg a.sh):=q.cell 6;have q7:W.cell? ⟨w.heap.size,7,none⟩=some (be B2 a.rs.length b2):=q.cell 7;have q8:W.cell? ⟨w.heap.size,8,none⟩=some (bg a.need):=q.cell 8;have q9:W.cell? ⟨w.heap.size,9,none⟩=some (be B3 a.ch.length b3):=q.cell 9;have NC:(qG 57 (bf (some ⟨w.heap.size,0,none⟩))).run Tryz.prog W = .ok (.agg [bb bc a.k,bb bc a.lo,bb bc a.hi,bb bc a.pl,bd a.ls,be B1 a.only.length b1,bg a.sh,be B2 a.rs.length b2,bg a.need,be B3 a.ch.length b3].toArray) W:=uo rfl (gU q);have dH:=qh q;have HQ:=qh d;have v:=qh (ha.h2.below (d.mono hB));have U:W.cell? ⟨T,0,none⟩=some (bf (some ⟨G,0,none⟩)):=Below.cell_of d aa;have V:W.cell? ⟨G,7,none⟩=some (.map (some O)):=Below.cell_of d wE;have HM:=qh (bi (hm.below d hm.lt) hk);have KL:=qh (λ (w:World)=>Nz a.k w);have KF:=qh (UC (w:=W) (a:=a) (B1:=B1) (b1:=b1) (B2:=B2) (b2:=b2) (B3:=B3) (b3:=b3));have g:=qh (Nh.eq_def f.lists a);obtain⟨F,hF⟩:=af (Nh f.lists a);rw[hF] at g ⊢;obtain⟨H,Qm⟩:=af ((Hu a.k).1);obtain⟨D,S⟩:=af ((Hu a.k).2);rw[Qm,S] at g;simp only[Qm,S] at KL;obtain⟨x1,L⟩:=af (bu a.k 2 6);have K1:=qh (kH a.k 2 6 W);obtain⟨x2,Q⟩:=af (SA a);obtain⟨x3,J⟩:=af (bu a.lo H D);have K3:=qh (λ (w:World)=>kH a.lo H D w);obtain⟨x4,I⟩:=af (bu a.hi H D);have K4:=qh (λ (w:World)=>kH a.hi H D w);obtain⟨x5,R⟩:=af (bu a.pl 0 4);have K5:=qh (λ (w:World)=>kH a.pl 0 4 w);rw[L,Q,J,I,R] at g;rw[L] at K1;rw[Q] at KF;simp only[J] at K3;simp only[I] at K4;simp only[R] at K5;have HS:=qh (show ∀ w',EG W w'->w'.cell? ⟨T,0,none⟩=some (bf (some ⟨G,0,none⟩))/\w'.cell? ⟨G,7,none⟩=some (.map (some O))/\w'.cell? ⟨w.heap.size,0,none⟩=some (bb bc a.k)/\w'.cell? ⟨w.heap.size,1,none⟩=some (bb bc a.lo)/\w'.cell? ⟨w.heap.size,2,none⟩=some (bb bc a.hi)/\w'.cell? ⟨w.heap.size,3,none⟩=some (bb bc a.pl)/\w'.cell? ⟨w.heap.size,4,none⟩=some (bd a.ls)/\w'.cell? ⟨w.heap.size,5,none⟩=some (be B1 a.only.length b1)/\w'.cell? ⟨w.heap.size,6,none⟩=some (bg a.sh)/\w'.cell? ⟨w.heap.size,7,none⟩=some (be B2 a.rs.length b2)/\w'.cell? ⟨w.heap.size,8,none⟩=some (bg a.need)/\w'.cell? ⟨w.heap.size,9,none⟩=some (be B3 a.ch.length b3) from λ w' u=>⟨Below.cell_of u U,Below.cell_of u V,Below.cell_of u q0,Below.cell_of u q1,Below.cell_of u Z,Below.cell_of u q3,Below.cell_of u X,Below.cell_of u q5,Below.cell_of u q6,Below.cell_of u q7,Below.cell_of u q8,Below.cell_of u q9⟩);clear q ha hm hk h hF Qm S aa wE L Q J I R;go_enter Tryz.func116,Tryz.ntmps116;go_upto_region 1 with (fail);rw[<- hW];clear hW;go_upto_region 2 with (go_at_call 171;(with_reducible refine (KL.o _).mono ?_);rintro y b ⟨rfl,rfl⟩);cases x1
 case true =>
  go_wp2_with (go_at_call 30;(with_reducible refine K1.o.mono ?_);rintro y b ⟨rfl,rfl⟩);go_ret;exact⟨ai (by rw[g.o];simp),HQ.o⟩
 have g:=qh (g.o.trans (if_neg (by decide)));go_upto_region 4 with (go_at_call 30;(with_reducible refine K1.o.mono ?_);rintro y b ⟨rfl,rfl⟩);cases x2
 case false =>
  go_wp2_with (go_at_call 172;(with_reducible refine KF.o.mono ?_);rintro y b ⟨rfl,n⟩);go_ret;exact⟨ai (by rw[g.o];simp),d.trans (n.mono d.size)⟩
 have g:=qh (g.o.trans (if_neg (by decide)));go_upto_region 6 with (go_at_call 172;(with_reducible refine KF.o.mono ?_);rintro y b ⟨rfl,n⟩);have o:=qh (d.trans (n.mono d.size));have LP:=qh n;clear U V q0 q1 Z q3 X q5 q6 q7 q8 q9 NC;obtain⟨U,V,q0,q1,Z,q3,X,q5,q6,q7,q8,q9⟩:=HS.o _ n;clear n d;by_cases hlt:a.hi<a.lo
 .have m:=qh (g.o.trans (if_pos (.inl hlt)));go_wp2;go_ret;exact⟨ai (by rw[m.o]),o.o⟩
 cases x3
 case true =>
  have m:=qh (g.o.trans (if_pos (.inr (.inl rfl))));go_wp2_with (go_at_call 30;(with_reducible refine (K3.o _).mono ?_);rintro y b ⟨rfl,rfl⟩);go_ret;exact⟨ai (by rw[m.o]),o.o⟩
 cases x4
 case true =>
  have m:=qh (g.o.trans (if_pos (.inr (.inr rfl))));go_wp2_with (first
   | (go_at_call 30;(with_reducible refine (K3.o _).mono ?_);rintro y b ⟨rfl,rfl⟩)
   | (go_at_call 30;(with_reducible refine (K4.o _).mono ?_);rintro e2 w2 ⟨rfl,rfl⟩))
  go_ret;exact⟨ai (by rw[m.o]),o.o⟩
 have g:=qh (g.o.trans (if_neg (by rintro (h | h | h);exact hlt h;cases h;cases h)));go_upto_region 8 with (first
  | (go_at_call 30;(with_reducible refine (K3.o _).mono ?_);rintro y b ⟨rfl,rfl⟩)
  | (go_at_call 30;(with_reducible refine (K4.o _).mono ?_);rintro e2 w2 ⟨rfl,rfl⟩))
 clear hlt;cases x5
 case true =>
  have m:=qh (g.o.trans (if_pos rfl));go_wp2_with (go_at_call 30;(with_reducible refine (K5.o _).mono ?_);rintro y b ⟨rfl,rfl⟩);go_ret;exact⟨ai (by rw[m.o]),o.o⟩
 have g:=qh (g.o.trans (if_neg (by decide)));go_upto_region 10 with (go_at_call 30;(with_reducible refine (K5.o _).mono ?_);rintro y b ⟨rfl,rfl⟩);have s:=Below.refl b.heap.size b;have an:B0<=b.heap.size:=bj hB o.o.size;have aD:w.heap.size<b.heap.size:=bp dH.o.lt LP.o.size;have xU:=qh (HM.o.1.below LP.o HM.o.1.lt);obtain⟨s9,A9,n9,c9,ok,P,ac⟩:∃ s9 A9 n9 c9 ok,(∀ w',EG b w'->(Instr.lookup 113 (.map (some O)) (bd a.ls) true).run Tryz.prog w' = .ok (.tuple #[.agg #[bd s9,be A9 n9 c9],bg ok]) w')/\(eX f.lists a.ls).isNone=!ok:=by
  have Y:=HM.o.2 a.ls;have h8:=λ w' (z:EG b w')=>(xU.o.below z xU.o.lt).look Tryz.underlying113 (SI w') aw;cases B:eX f.lists a.ls with
  | none =>
   rw[B] at Y;exact⟨_,_,_,_,false,λ w' z=>by have:=h8 w' z;rw[Y] at this;exact this,rfl⟩
  | some l =>
   rw[B] at Y;obtain⟨A,c,Y,-⟩:=Y;exact⟨_,_,_,_,true,λ w' z=>by have:=h8 w' z;rw[Y] at this;exact this,rfl⟩
 rw[ac] at g;have zo:=qh (λ w' (B:EG b w')=>bi (Below.cell_of B U) (bi (Below.cell_of B V) (bi (Below.cell_of B X) (bi (P w' B) B))));have ay:=P b s;have am:=qh (λ w' (B:EG b w')=>HS.o w' (LP.o.trans (B.mono LP.o.size)));have v:=qh (v.o.below (LP.o.mono (bj hB HQ.o.size)));clear P ac q0 q1 Z q3 q5 q6 q7 q8 q9 K1 KF HS KL HM K3 K4 K5;go_region_held3 (λ w'=>w'.cell? ⟨T,0,none⟩=some (bf (some ⟨G,0,none⟩))/\w'.cell? ⟨G,7,none⟩=some (.map (some O))/\w'.cell? ⟨w.heap.size,4,none⟩=some (bd a.ls)/\(Instr.lookup 113 (.map (some O)) (bd a.ls) true).run Tryz.prog w' = .ok (.tuple #[.agg #[bd s9,be A9 n9 c9],bg ok]) w'/\EG b w')
  (first | exact zo.o _ s.drew | exact zo.o _ (s.alloc (bk _) _) | exact zo.o _ (s.alloc (bk _) _).drew | exact zo.o _ (s.drew.alloc (bk _) _) | exact zo.o _ s) (fail)
 all_goals
  obtain⟨W2,M⟩:=aH ((b.alloc (.cells #[bd s9,be A9 n9 c9] 92 (0,0))).drew);have E:EG b W2:=M▸((Below.refl _ b).alloc (bk _) _).drew;rw[<- M];clear M U V X ay;obtain⟨U,V,q0,q1,Z,q3,X,q5,q6,q7,q8,q9⟩:=am.o _ E;have t:=qh (o.o.trans (E.mono o.o.size));have v:=qh (v.o.below (E.mono an));clear E;by_cases hbad:ok=false/\(a.k=4\/a.k=5)
  .obtain⟨rfl,lh⟩:=hbad;have m:=qh (g.o.trans (if_pos ⟨rfl,lh⟩));by_cases h4:a.k=4
   case' pos =>
    obtain⟨g4,ae⟩:=jf h4;clear lh h4
   case' neg =>
    obtain⟨g4,ae⟩:=gp h4;obtain⟨g5,WJ⟩:=jf (lh.resolve_left h4);clear lh h4
   all_goals
    go_wp2;go_ret;exact⟨ai (by rw[m.o]),t.o⟩
  have aq:=qh (show F=Dq a (Dl none a.rs) from g.o.trans (if_neg (λ h=>hbad ⟨by simpa using h.1,h.2⟩)));clear g;cases ok
  case' false =>
   obtain⟨g4,ae⟩:=gp (λ h:a.k=4=>hbad ⟨rfl,.inl h⟩);obtain⟨g5,WJ⟩:=gp (λ h:a.k=5=>hbad ⟨rfl,.inr h⟩);clear hbad;go_upto_region 13 with (fail)
  case' true =>
   clear hbad;go_upto_region 13 with (fail)
  all_goals
   go_wp2;go_loopw [77] (λ i wr=>∃ k:Nat,i = bb bc k/\k<=a.rs.length/\wr=W2/\Hid (F=Dq a (Dl (JR a.rs k) (a.rs.drop k)))) (λ i _=>a.rs.length+1 - (intOf i).toNat)
   case atStart=>exact⟨0,rfl,bl _,rfl,aq⟩
   case round =>
    obtain⟨k,rfl,hk,rfl,j⟩:=hrel;by_cases hlt:k<a.rs.length
    .have j:=qh (j.o.trans (congrArg (Dq a) (UL hlt)));obtain⟨ab,ao,e9,ad,C⟩:=v.o.plain (by omega);subst e9;have ad:ab<wr.heap.size:=bp ad (bj hB t.o.size);have qx:wr.cell? ⟨ab,ao+k,none⟩=some (bb bc a.rs[k]):=C k _ (by simp[bF,hlt]);obtain⟨r,hr⟩:=af (a.rs[k]);rw[hr] at qx j;have HR:=qh hr;clear hr;have aX:=qh hlt;obtain⟨x6,al⟩:=af (bu r 1 3);have K6:=qh (kH r 1 3 wr);rw[al] at K6 j;clear al;by_cases hk0:k=0
     case' pos =>
      clear C;subst hk0;rw[Nat.add_zero] at qx;have j:=qh (j.o.trans (congrArg (Dq a) (if_neg (by simp[JR]))))
     case' neg =>
      have ax:wr.cell? ⟨ab,ao+(k - 1),none⟩=some (bb bc a.rs[k - 1]):=C (k - 1) _ (by simp[bF,show k - 1<a.rs.length by omega]);obtain⟨p,hp⟩:=af (a.rs[k - 1]);have ak:JR a.rs k=some p:=by
       cases k with
       | zero=>exact absurd rfl hk0
       | succ k'=>rw[<- hp];exact bN (by omega)
      rw[hp] at ax;rw[ak] at j;have i0:IntKind.i64.wrap ((k:Int) - 1)=(k:Int) - 1:=IntWalk.i64_in _ (by omega);have i1:((k:Int) - 1).toNat=k - 1:=by omega
      have i2:(0:Int)<=(k:Int) - 1:=by omega
      have i3:(k:Int) - 1<(a.rs.length:Int):=by omega
      have n:0<k:=by omega
      clear hp ak hk0 C;by_cases hle:r<=p
      .have j:=qh (j.o.trans (congrArg (Dq a) (if_pos (by simpa using hle))));go_wp2;go_ret;exact⟨ai (by rw[j.o];rfl),t.o⟩
      have j:=qh (j.o.trans (congrArg (Dq a) (if_neg (by simpa using hle))))
     all_goals
      go_upto_region 18 with (fail);cases x6
      case true =>
       have m:=qh (j.o.trans (congrArg (Dq a) (if_pos rfl)));go_wp2_with (go_at_call 30;(with_reducible refine K6.o.mono ?_);rintro y b ⟨rfl,rfl⟩);go_ret;exact⟨ai (by rw[m.o];rfl),t.o⟩
      have m:=qh (j.o.trans (congrArg (Dq a) (if_neg (by decide))));go_wp2_with (go_at_call 30;(with_reducible refine K6.o.mono ?_);rintro y b ⟨rfl,rfl⟩);go_roundw
      case rel=>exact⟨_+1,by go_num,aX.o,by first | rfl | trivial,m⟩
      case measure =>
       have:=aX.o
       first | (simp[intOf];done) | (simp[intOf];omega)
    .have e:k=a.rs.length:=by omega
     subst e;have j:=qh (show F=if 6<a.ch.length then 2 else 0 from j.o.trans (by rw[bO];cases JR a.rs a.rs.length <;> rfl));by_cases h6:6<a.ch.length
     .have m:=qh (j.o.trans (if_pos h6));have ar:(6:Int)<a.ch.length:=by omega
      go_wp2;go_ret;exact⟨ai (by rw[m.o]),t.o⟩
     .have m:=qh (j.o.trans (if_neg h6));have ar:¬ (6:Int)<a.ch.length:=by omega
      go_wp2;go_ret;exact⟨ai (by rw[m.o]),t.o⟩
set_option maxHeartbeats 4000000
set_option maxRecDepth 100000
theorem any_succ {N:List ah} {P:ah->Bool} {k:Nat} (h:k<N.length):(N.take (k+1)).any P=((N.take k).any P || P N[k]):=by
 rw[bm h,List.any_append];simp
theorem adR {N:List ah} {P:ah->Bool} {k:Nat} (h:k<N.length) (a:P N[k]=true):N.any P=true:=bB.2 ⟨N[k],bn h,a⟩
theorem size_any {w:World} {B0 I m1 m2 m3:Nat} {x:ku} {f:aG} {N:List ah} {K:aV} (h:aJ w B0 I m1 m2 m3 x f N K) {t:Nat} (y:w.cell? ⟨t,0,none⟩=some (bf (some ⟨I,0,none⟩))) (aa:t<w.heap.size) :
  CS 113 #[bf (some ⟨t,0,none⟩)] w (bb bc (yh N)):=by
 have J:=h.cap;have su:=h.nodes.1;have r:w.cell? ⟨I,5,none⟩=some (be x.AN N.length x.cn):=h.blk.cell 5;have lg:=qh h;obtain⟨V,z⟩:=af (x.AN);have Y:=qh z;have b:=qh (yh.eq_def N);obtain⟨F,hF⟩:=af (yh N);rw[hF] at b ⊢;rw[z] at r;clear h z hF;by_cases agV:300<N.length
 .have v:(300:Int)<N.length:=by omega
  have m:=qh (b.o.trans (if_pos agV));go_enter Tryz.func113,Tryz.ntmps113;go_wp2;go_ret;exact⟨ai m.o.symm,Below.refl _ _⟩
 have b:=qh (b.o.trans (if_neg agV));have v:¬ (300:Int)<N.length:=by omega
 go_enter Tryz.func113,Tryz.ntmps113;go_wp2;clear r y;go_loopw [22] (λ i wr=>∃ k:Nat,i = bb bc k/\k<=N.length/\Hid ((N.take k).any (λ d=>decide (12<d.dJ) || decide (3<d.lo.length))=false)/\EG w wr) (λ i _=>302 - (intOf i).toNat)
 case atStart=>exact⟨0,rfl,bl _,qh rfl,Below.refl _ _⟩
 case round =>
  obtain⟨k,rfl,hk,o,s⟩:=hrel;have T:=s.size;by_cases hlt:k<N.length
  .have g:=qh (adR (P:=λ d=>decide (12<d.dJ) || decide (3<d.lo.length)) hlt);have p:=qh (any_succ (P:=λ d=>decide (12<d.dJ) || decide (3<d.lo.length)) hlt);have M:=qh (lg.o.keep s);obtain⟨ad,A1,S,X,c2,A3,c3,Z,U,A5,r,B1,b1,B2,b2,B3,b3,A,c,O,LM,hit,l,D⟩:=M.o.oW hlt;obtain rfl:V=some ad:=Y.o.symm.trans O;obtain⟨d,E⟩:=af (N[k]);rw[E] at D g l hit;obtain⟨cs,a⟩:∃ cs:List Value,[bb bc d.it.k,bd d.it.nm,be A1 d.it.iff.length S,be X d.it.ph.length c2,be A3 d.it.items.length c3,bg d.it.sh,be Z d.it.cnt.length U,bd d.it.over,bb bc d.it.ans.k,bb bc d.it.ans.lo,bb bc d.it.ans.hi,bb bc d.it.ans.pl,bd d.it.ans.ls,be B1 d.it.ans.only.length b1,bg d.it.ans.sh,be B2 d.it.ans.rs.length b2,bg d.it.ans.need,be B3 d.it.ans.ch.length b3,be A5 d.it.cmp.length r,bb bc d.par,bb bc d.kV,bb bc d.dJ,be A d.lo.length c]=cs:=⟨_,rfl⟩;have C:cs.length=23:=by subst a;rfl
   have yK:=yl (w:=wr) C (ad:=ad.add (k*23)) (λ j u hu=>D j u (by subst a;exact hu));have Cc:=Dp (w:=wr) C (by subst a;simp[bq]);obtain⟨W,q⟩:=aH (wr.alloc (.cells cs.toArray 110 (0,0)));have R:EG wr W:=q▸aB wr _;have n:=s.trans (R.mono T);have B:ag W wr.heap.size 110 cs.toArray:=q▸ag.new wr _ _;have Q:W.cell? ⟨wr.heap.size,21,none⟩=some (bb bc d.dJ):=by rw[B.cell 21];subst a;rfl
   have ac:W.cell? ⟨wr.heap.size,22,none⟩=some (be A d.lo.length c):=by rw[B.cell 22];subst a;rfl
   rw[E] at p;have ab:d.lo.length<=1000:=l.2;have L:=qh hlt;clear a C hit l D LM M O E B;go_upto_region 6 with (fail);rw[<- q];clear yK Cc q;by_cases h12:12<d.dJ
   .have m:=qh (b.o.trans (if_pos (g.o (by simp[h12]))));go_wp2;go_ret;exact⟨ai m.o.symm,n⟩
   by_cases h3:3<d.lo.length
   .have m:=qh (b.o.trans (if_pos (g.o (by simp[h3]))));have G:(3:Int)<d.lo.length:=by omega
    go_wp2;go_ret;exact⟨ai m.o.symm,n⟩
   .have H:=qh (p.o.trans (by rw[o.o,decide_eq_false h12,decide_eq_false h3]));have G:¬ (3:Int)<d.lo.length:=by omega
    go_wp2;go_roundw
    case rel=>exact⟨k+1,by go_num,L.o,H,n⟩
    case measure =>
     have:=L.o;simp[intOf];omega
  .have e:k=N.length:=by omega
   subst e;have o:=qh o.o;rw[List.take_length] at o;have m:=qh (b.o.trans (if_neg (by simp[o.o])));go_wp2;go_ret;exact⟨ai m.o.symm,s⟩
theorem Qn {l:List ByteArray} {k:Nat} (h:k<l.length):BU (l.take k) (l.drop k)=if bz l[k].data.toList=false then 5 else if Lib.containsS (l.take k) l[k]=true then 6 else BU (l.take (k+1)) (l.drop (k+1)):=by
 rw[bL h,BU,bm h];have e:(l.take k).any (λ p=>decide (p=l[k]))=Lib.containsS (l.take k) l[k]:=by
  rw[Bool.eq_iff_iff,Lib.containsS_iff,bB];exact⟨λ ⟨x,a,e⟩=>of_decide_eq_true e▸a,λ a=>⟨_,a,by simp⟩⟩
 rw[e]
theorem nz {w:World} {ad:Addr} {cs:List Value} (a:cs.length=5) (b:∀ j u,cs[j]?=some u->w.cell? (ad.add j)=some u):(qG 26 (bf (some ad))).run Tryz.prog w = .ok (.agg cs.toArray) w:=
 gu Tryz.underlying26 rfl (by rw[a];kernel_rfl) b
theorem XU {w:World} {cs:List Value} (a:cs.length=5) (b:∀ v∈cs,v.oneCell'=true):(Hy 26 (bf (some ⟨w.heap.size,0,none⟩)) (.agg cs.toArray)).run Tryz.prog (w.alloc (.cells #[bd ⟨#[]⟩,bb bc 0,be none 0 0,be none 0 0,be none 0 0] 26 (0,0))) = .ok () (w.alloc (.cells cs.toArray 26 (0,0))):=
 lI (by rw[show cs.toArray.size=5 from a];kernel_rfl) (show 5=cs.toArray.size from a.symm) (by rw[<- Array.all_toList];exact br.2 b)
theorem XV {w:World} {B0 R m1 m2 m3:Nat} {x:ku} {f:aG} {N:List ah} {K:aV} (h:aJ w B0 R m1 m2 m3 x f N K) {J:Nat} (aa:w.cell? ⟨J,0,none⟩=some (bf (some ⟨R,0,none⟩))) (ak:J<w.heap.size) :
  CS 71 #[bf (some ⟨J,0,none⟩)] w (bb bc (ql f)):=by
 have q:=h.form.nm;obtain⟨t,al,Q,B⟩:=h.form.la;have Y:=h.le;have c:=qh (ql.eq_def f);obtain⟨F,hF⟩:=af (ql f);rw[hF] at c ⊢;obtain⟨cs,b⟩:∃ cs:List Value,[bd f.nm,bb bc f.ig,be x.AL f.aA.length x.cl,be x.AS f.lists.length x.cs,be x.AI f.items.length x.ci]=cs:=⟨_,rfl⟩;have I:cs.length=5:=by subst b;rfl
 have S:=nz (w:=w) I (ad:=⟨R,0,none⟩) (zN (k:=0) h.blk (by subst b;intro j u m;match j,m with | 0,m | 1,m | 2,m | 3,m | 4,m=>(exact m) | j+5,m=>simp at m));have M:=XU (w:=w) I (by subst b;simp[bq]);obtain⟨W,E⟩:=aH (w.alloc (.cells cs.toArray 26 (0,0)));have a:EG w W:=E▸aB w _;have G:ag W w.heap.size 26 cs.toArray:=E▸ag.new w _ _;have q0:W.cell? ⟨w.heap.size,0,none⟩=some (bd f.nm):=by rw[G.cell 0];subst b;rfl
 have q1:W.cell? ⟨w.heap.size,1,none⟩=some (bb bc f.ig):=by rw[G.cell 1];subst b;rfl
 have Z:W.cell? ⟨w.heap.size,2,none⟩=some (be x.AL f.aA.length x.cl):=by rw[G.cell 2];subst b;rfl
 have H:=qh (bi (Reads.below t (a.mono Y)) B);obtain⟨AL,v⟩:=af (x.AL);rw[v] at Z H;clear v;obtain⟨x1,r⟩:=af (bz f.nm.data.toList);have P:=qh (lS f.nm W q);obtain⟨x2,A⟩:=af (bu f.ig 1 9999);have O:=qh (kH f.ig 1 9999 W);obtain⟨x3,n⟩:=af (bu f.aA.length 1 6);have T:=qh (kH f.aA.length 1 6 W);rw[r] at c P;rw[A] at c O;rw[n] at c T;have ae:=qh n;clear t B G b I hF h q r A n;go_enter Tryz.func71,Tryz.ntmps71;go_upto_region 2 with (fail);rw[<- E];clear S M E;cases x1
 case false =>
  go_wp2_with (go_at_call 23;(with_reducible refine P.o.mono ?_);rintro l g ⟨rfl,rfl⟩);go_ret;exact⟨ai (by rw[c.o];simp),a⟩
 have c:=qh (c.o.trans (if_neg (by decide)));go_upto_region 4 with (go_at_call 23;(with_reducible refine P.o.mono ?_);rintro l g ⟨rfl,rfl⟩);cases x2
 case true =>
  go_wp2_with (go_at_call 30;(with_reducible refine O.o.mono ?_);rintro l g ⟨rfl,rfl⟩);go_ret;exact⟨ai (by rw[c.o];simp),a⟩
 have c:=qh (c.o.trans (if_neg (by decide)));go_upto_region 6 with (go_at_call 30;(with_reducible refine O.o.mono ?_);rintro l g ⟨rfl,rfl⟩);cases x3
 case true =>
  go_wp2_with (go_at_call 30;(with_reducible refine T.o.mono ?_);rintro l g ⟨rfl,rfl⟩);go_ret;exact⟨ai (by rw[c.o];simp),a⟩
 have c:=qh (c.o.trans (if_neg (by decide)));unfold maxLen at Q;go_wp2_with (go_at_call 30;(with_reducible refine T.o.mono ?_);rintro l g ⟨rfl,rfl⟩);go_loopw [27] (λ i wr=>∃ k:Nat,i = bb bc k/\k<=f.aA.length/\wr=W/\Hid (F=BU (f.aA.take k) (f.aA.drop k))) (λ i _=>f.aA.length+1 - (intOf i).toNat)
 case atStart=>exact⟨0,rfl,bl _,rfl,c⟩
 case round =>
  obtain⟨k,rfl,hk,rfl,d⟩:=hrel;by_cases hlt:k<f.aA.length
  .have d:=qh (d.o.trans (Qn hlt));have HT:=qh (dB.take H.o.1 k);obtain⟨L,U,e9,z,o⟩:=Reads.plain H.o.1 (by omega);subst e9;have qx:wr.cell? ⟨L,U+k,none⟩=some (bd f.aA[k]):=o k _ (by simp[iZ,hlt]);have y:=qh (lS f.aA[k] wr (H.o.2 _ (bn hlt)));have C:=qh (uX (some ⟨L,U,none⟩) x.cl B0 (f.aA.take k) f.aA[k] wr (by rw[bE];unfold maxLen;omega) HT.o);rw[bE,Nat.min_eq_left (by omega)] at C;obtain⟨s,V⟩:=af (f.aA[k]);rw[V] at qx y C d;obtain⟨x4,p⟩:=af (bz s.data.toList);obtain⟨x5,D⟩:=af (Lib.containsS (f.aA.take k) s);rw[p] at y d;rw[D] at C d;have z:L<wr.heap.size:=bp z (bj Y a.size);have X:=qh hlt;have ac:k<=x.cl:=by omega
   clear V p D o;cases x4
   case false =>
    go_wp2_with (go_at_call 23;(with_reducible refine y.o.mono ?_);rintro l g ⟨rfl,rfl⟩);go_ret;exact⟨ai (by rw[d.o];simp),a⟩
   have d:=qh (d.o.trans (if_neg (by decide)));cases x5
   case true =>
    go_wp2_with (first
     | (go_at_call 23;(with_reducible refine y.o.mono ?_);rintro l g ⟨rfl,rfl⟩)
     | (go_at_call 90;(with_reducible refine C.o.mono ?_);rintro l g ⟨rfl,rfl⟩))
    go_ret;exact⟨ai (by rw[d.o];simp),a⟩
   have d:=qh (d.o.trans (if_neg (by decide)));go_wp2_with (first
    | (go_at_call 23;(with_reducible refine y.o.mono ?_);rintro l g ⟨rfl,rfl⟩)
    | (go_at_call 90;(with_reducible refine C.o.mono ?_);rintro l g ⟨rfl,rfl⟩))
   go_roundw
   case rel=>exact⟨k+1,by go_num,X.o,by first | rfl | trivial,d⟩
   case measure =>
    have:=X.o;simp[intOf];omega
  .have e:k=f.aA.length:=by omega
   subst e;have HE:=qh (show F=0 from d.o.trans (by rw[bO];rfl));go_wp2;go_ret;exact⟨ai HE.o.symm,a⟩
set_option maxHeartbeats 4000000
set_option maxRecDepth 100000
theorem IQ {N:List ah} {L:List aW} {k:Nat} (h:k<N.length):wu N L (N.length+1 - k) k=if oV N L k≠0 then oV N L k else wu N L (N.length+1 - (k+1)) (k+1):=by
 obtain⟨m,a⟩:∃ m,N.length+1 - k=m+1:=⟨N.length - k,by omega⟩;rw[a,show N.length+1 - (k+1)=m by omega,wu,if_pos h]
theorem XW {N:List ah} {L:List aW}:wu N L (N.length+1 - N.length) N.length=0:=by
 rw[show N.length+1 - N.length=0+1 by omega,wu,if_neg (by omega)]
theorem XX {N:List ah} {L:List aW} {k:Nat} {d:ah} (h:k<N.length) (a:N[k]=d):oV N L k=if bu d.it.k 1 6=true then 4 else if bz d.it.nm.data.toList=false\/d.it.nm=vw then 5 else if (N.take k).any (λ e=>decide (e.it.nm=d.it.nm))=true then 6 else if vZ d.it=true then 3 else
  if (uh N k=true/\(d.it.k=1\/d.it.k=6))\/(uh N k=false/\d.it.k=4) then 7 else if d.it.k=4 then Nh L d.it.ans else 0:=by
 unfold oV;rw[iY h,a]
def IU (kv:List (ByteArray × Value)) (l:List ah):Prop:=kv.length<=l.length/\∀ s,gz kv s=if l.any (λ d=>decide (d.it.nm=s))=true then some (bg true) else none
theorem IU.add {a:List (ByteArray × Value)} {N:List ah} {k:Nat} (h:IU a (N.take k)) (b:k<N.length):IU ((N[k].it.nm,bg true) :: a) (N.take (k+1)):=by
 refine⟨by have:=h.1;simp at this ⊢;omega,λ s=>?_⟩;rw[any_succ b,gz];by_cases e:N[k].it.nm=s
 .simp[e]
 .simp only[e,if_false,decide_false,Bool.or_false];exact h.2 s
theorem IU.get {a:List (ByteArray × Value)} {l:List ah} (h:IU a l) (s:ByteArray):(gz a s).getD (bg false) = bg (l.any (λ d=>decide (d.it.nm=s))):=by
 rw[h.2 s];cases l.any (λ d=>decide (d.it.nm=s)) <;> rfl
theorem ajZ {s:ByteArray} (h:s=vw):(s.toList == [111,112,116,105,111,110])=true:=by
 subst h;rw[ByteArray.toList_eq];rfl
theorem aj0 {s:ByteArray} (h:¬ s=vw):(s.toList == [111,112,116,105,111,110])=false:=by
 rw[beq_eq_false_iff_ne];intro e;rw[ByteArray.toList_eq] at e;exact h (ByteArray.ext (Array.toList_inj.1 e))
theorem XY (w:World):(zeroValue 4).run Tryz.prog w = .ok (bg false) w:=by kernel_rfl
theorem Qo {w:World} {B0 gb m1 m2 m3:Nat} {x:ku} {f:aG} {N:List ah} {K:aV} (h:aJ w B0 gb m1 m2 m3 x f N K) {Q:Nat} (E:w.cell? ⟨Q,0,none⟩=some (bf (some ⟨gb,0,none⟩))) (an:Q<w.heap.size) (hN:eH N) :
  CS 73 #[bf (some ⟨Q,0,none⟩)] w (bb bc (jh N f.lists)):=by
 have a6:=h.cap;have su:=h.nodes.1;have hB:=h.le;have lg:=qh (bi h (bi E (bi an hN)));have XZ:=qh (size_any h E an);obtain⟨AN,G8⟩:=af (x.AN);have SH:=qh G8;have HF:=qh (jh.eq_def N f.lists);obtain⟨F,hF⟩:=af (jh N f.lists);obtain⟨z,hz⟩:=af (yh N);rw[hF,hz] at HF;rw[hz] at XZ;rw[hF];clear h G8 hF hz;by_cases hz0:z=0
 case neg =>
  have l:=qh (HF.o.trans (if_pos hz0));obtain⟨g0,a9⟩:=gp hz0;go_enter Tryz.func73,Tryz.ntmps73;go_wp2_with (go_at_call 113;(with_reducible refine XZ.o.mono ?_);rintro y v ⟨rfl,r⟩);go_ret;exact⟨ai l.o.symm,r⟩
 subst hz0;have HF:=qh (HF.o.trans (if_neg (by decide)));go_enter Tryz.func73,Tryz.ntmps73;go_upto_region 4 with (go_at_call 113;(with_reducible refine XZ.o.mono ?_);rintro y v ⟨rfl,r⟩);have av:=qh (lg.o.1.keep r);have G:=r.size;have c5:v.cell? ⟨gb,5,none⟩=some (be x.AN N.length x.cn):=av.o.blk.cell 5;rw[SH.o] at c5;have a4:v.cell? ⟨Q,0,none⟩=some (bf (some ⟨gb,0,none⟩)):=Below.cell_of r E;have aL:=@run_makeMap Tryz.prog;have a8:Q<v.heap.size:=by omega
 have a7:gb<v.heap.size:=av.o.blk.lt;go_wp2;clear aL;have aM:=qh (aS.made v);clear c5 a4 E;go_loopw [24] (λ i wr=>∃ (k:Nat) (kv:List (ByteArray × Value)),i = bb bc k/\k<=N.length/\Hid (F=wu N f.lists (N.length+1 - k) k)/\Hid (aS wr v.heap.size kv/\IU kv (N.take k))/\EG w wr) (λ i _=>302 - (intOf i).toNat)
 case atStart=>exact⟨0,[],rfl,bl _,HF,qh ⟨aM.o,by simp,λ s=>rfl⟩,r.alloc G _⟩
 case round =>
  obtain⟨k,kv,rfl,hk,HP,HM,hb⟩:=hrel;have hs:=hb.size;by_cases hlt:k<N.length
  .have G9:=qh (lg.o.1.keep hb);obtain⟨ad,A1,c1,A2,c2,A3,c3,A4,c4,A5,c5,B1,b1,B2,b2,B3,b3,A,c,hA,LM,hit,a1,hc⟩:=G9.o.oW hlt;obtain rfl:AN=some ad:=SH.o.symm.trans hA;obtain⟨d,hd⟩:=af (N[k]);have a:=qh (XX (L:=f.lists) hlt hd);have P:=qh (show ∀ c:Int,c≠0->oV N f.lists k=c->F=c from λ c h1 h2=>HP.o.trans ((IQ hlt).trans (by rw[h2,if_pos h1])));have X:=qh (show oV N f.lists k=0->F=wu N f.lists (N.length+1 - (k+1)) (k+1) from λ h2=>HP.o.trans ((IQ hlt).trans (by rw[h2];rfl)));have Y:=qh (HM.o.2.add hlt);have uq:=HM.o.1.lt;rw[hd] at hc hit Y;have D:d.it.nm.size<=maxLen:=by cases hit;assumption
   obtain⟨V,O⟩:∃ cs:List Value,[bb bc d.it.k,bd d.it.nm,be A1 d.it.iff.length c1,be A2 d.it.ph.length c2,be A3 d.it.items.length c3,bg d.it.sh,be A4 d.it.cnt.length c4,bd d.it.over,bb bc d.it.ans.k,bb bc d.it.ans.lo,bb bc d.it.ans.hi,bb bc d.it.ans.pl,bd d.it.ans.ls,be B1 d.it.ans.only.length b1,bg d.it.ans.sh,be B2 d.it.ans.rs.length b2,bg d.it.ans.need,be B3 d.it.ans.ch.length b3,be A5 d.it.cmp.length c5]=cs:=⟨_,rfl⟩;obtain⟨cs,C⟩:∃ cs:List Value,V ++ [bb bc d.par,bb bc d.kV,bb bc d.dJ,be A d.lo.length c]=cs:=⟨_,rfl⟩;have Nr:V.length=19:=by subst O;rfl
   have oZ:cs.length=23:=by subst C;rw[bK,Nr];rfl
   have yK:=yl (w:=wr) oZ (ad:=ad.add (k*23)) (λ j u hu=>hc j u (by subst C O;exact hu));have Cc:=Dp (w:=wr) oZ (by subst C O;simp[bq]);obtain⟨W,hW⟩:=aH (wr.alloc (.cells cs.toArray 110 (0,0)));have lJ:EG wr W:=hW▸aB wr _;have ba:=hb.trans (lJ.mono hs);have BW:ag W wr.heap.size 110 cs.toArray:=hW▸ag.new wr _ _;have aZ:=vC (w:=W) Nr (zN (k:=0) BW (by subst C;intro j u n;rw[Nat.zero_add,List.getElem?_toArray,List.getElem?_append_left (List.getElem?_eq_some_iff.1 n).1];exact n));have aD:=Nq (w:=W) Nr (by subst O;simp[bq]);obtain⟨W2,M⟩:=aH (W.alloc (.cells V.toArray 59 (0,0)));have aR:EG W W2:=M▸aB W _;have Fq:=lJ.trans (aR.mono lJ.size);have b:=hb.trans (Fq.mono hs);have BI:ag W2 W.heap.size 59 V.toArray:=M▸ag.new W _ _;have HS:=qh (show ∀ w',ag w' W.heap.size 59 V.toArray->w'.cell? ⟨W.heap.size,0,none⟩=some (bb bc d.it.k)/\w'.cell? ⟨W.heap.size,1,none⟩=some (bd d.it.nm)/\(qG 59 (bf (some ⟨W.heap.size,0,none⟩))).run Tryz.prog w' = .ok (.agg V.toArray) w'/\(qG 57 (bf (some ⟨W.heap.size,8,none⟩))).run Tryz.prog w' = .ok (.agg [bb bc d.it.ans.k,bb bc d.it.ans.lo,bb bc d.it.ans.hi,bb bc d.it.ans.pl,bd d.it.ans.ls,be B1 d.it.ans.only.length b1,bg d.it.ans.sh,be B2 d.it.ans.rs.length b2,bg d.it.ans.need,be B3 d.it.ans.ch.length b3].toArray) w' from
    λ w' B=>⟨by rw[B.cell 0];subst O;rfl,by rw[B.cell 1];subst O;rfl,vC Nr (gU B),uo rfl (zN B (by subst O;intro j u n;match j,n with | 0,n | 1,n | 2,n | 3,n | 4,n | 5,n | 6,n | 7,n | 8,n | 9,n=>(exact n) | j+10,n=>simp at n))⟩)
   have Uy:=qh (show ∀ w',EG w w'->w'.cell? ⟨Q,0,none⟩=some (bf (some ⟨gb,0,none⟩)) from λ w' q=>Below.cell_of q lg.o.2.1);have KX:=qh (show ∀ w',EG wr w'->(1<=d.it.k/\d.it.k<=6)->Calls Tryz.prog 115 #[.agg V.toArray] w' λ e Z=>e = bh (bg (vZ d.it))/\EG w' Z from λ w' q a0=>by
    rw[<- O];exact UD (hit.keep (q.mono (bj hB hs))) a0)
   have KA:=qh (show ∀ w',EG w w'->EG wr w'\/True->nI w' B0 d.it.ans B1 b1 B2 b2 B3 b3->Calls Tryz.prog 116 #[bf (some ⟨Q,0,none⟩),.agg [bb bc d.it.ans.k,bb bc d.it.ans.lo,bb bc d.it.ans.hi,bb bc d.it.ans.pl,bd d.it.ans.ls,be B1 d.it.ans.only.length b1,bg d.it.ans.sh,be B2 d.it.ans.rs.length b2,bg d.it.ans.need,be B3 d.it.ans.ch.length b3].toArray] w' λ e Z=>e = bh (bb bc (Nh f.lists d.it.ans))/\EG w' Z from λ w' q _ ha =>
    ND (lg.o.1.keep q) (Uy.o _ q) (bp lg.o.2.2.1 q.size) ha)
   have aE:=qh (show nI wr B0 d.it.ans B1 b1 B2 b2 B3 b3 by cases hit;assumption);have KP:=qh (Qi (lg.o.1.keep b) lg.o.2.2.2 k hlt);have aX:=qh hlt;have dH:=qh BI;obtain⟨p0,p1,a3,NC⟩:=HS.o W2 BI;have c0:=Uy.o W2 b;have I:=HM.o.1.below Fq uq;clear C O oZ Nr hit a1 hc LM G9 hA hd BW BI;go_upto_region 8 with (fail);rw[<- hW];clear yK Cc hW;go_upto_region 9 with (fail);rw[<- M];clear aZ aD M;obtain⟨pg,ap⟩:=af (uh N k);rw[ap] at KP a;clear ap;go_upto_region 10 with (go_at_call 114;(with_reducible refine KP.o.mono ?_);rintro y v ⟨rfl,rfl⟩);obtain⟨x1,S⟩:=af (bu d.it.k 1 6);have K1:=qh (kH d.it.k 1 6 W2);obtain⟨x2,aq⟩:=af (bz d.it.nm.data.toList);have K2:=qh (lS d.it.nm W2 D);rw[S] at K1 a;rw[aq] at K2 a;have D8:=qh S;clear S aq;cases x1
   case true =>
    have l:=qh (P.o 4 (by decide) (by rw[a.o];simp));go_wp2_with (go_at_call 30;(with_reducible refine K1.o.mono ?_);rintro y v ⟨rfl,rfl⟩);go_ret;exact⟨ai l.o.symm,b⟩
   have a:=qh (a.o.trans (if_neg (by decide)));go_upto_region 12 with (go_at_call 30;(with_reducible refine K1.o.mono ?_);rintro y v ⟨rfl,rfl⟩);cases x2
   case false =>
    have l:=qh (P.o 5 (by decide) (by rw[a.o];simp));go_wp2_with (go_at_call 23;(with_reducible refine K2.o.mono ?_);rintro y v ⟨rfl,rfl⟩);go_ret;exact⟨ai l.o.symm,b⟩
   by_cases ho:d.it.nm=vw
   .have l:=qh (P.o 5 (by decide) (a.o.trans (if_pos (.inr ho))));have go_:=ajZ ho;clear ho;go_wp2_with (go_at_call 23;(with_reducible refine K2.o.mono ?_);rintro y w9 ⟨rfl,rfl⟩);go_ret;exact⟨ai l.o.symm,b⟩
   have a:=qh (a.o.trans (if_neg (λ h=>h.elim (by decide) ho)));have go_:=aj0 ho;clear ho;have hl:=I.get Tryz.underlying204 (XY W2) D;rw[HM.o.2.get d.it.nm] at hl;obtain⟨x3,al⟩:=af ((N.take k).any (λ e=>decide (e.it.nm=d.it.nm)));rw[al] at hl a;clear al;cases x3
   case true =>
    have l:=qh (P.o 6 (by decide) (a.o.trans (if_pos rfl)));go_wp2_with (go_at_call 23;(with_reducible refine K2.o.mono ?_);rintro y w9 ⟨rfl,rfl⟩);go_ret;exact⟨ai l.o.symm,b⟩
   have a:=qh (a.o.trans (if_neg (by decide)));have J:=qh (KX.o W2 Fq (tJ D8.o));obtain⟨x4,ak⟩:=af (vZ d.it);rw[ak] at J a;clear ak;cases x4
   case true =>
    have l:=qh (P.o 3 (by decide) (a.o.trans (if_pos rfl)));go_wp2_with (first
     | (go_at_call 23;(with_reducible refine K2.o.mono ?_);rintro y w9 ⟨rfl,rfl⟩)
     | (go_at_call 115;(with_reducible refine J.o.mono ?_);rintro y w3 ⟨rfl,t⟩))
    go_ret;exact⟨ai l.o.symm,b.trans (t.mono b.size)⟩
   have a:=qh (a.o.trans (if_neg (by decide)));go_upto_region 18 with (first
     | (go_at_call 23;(with_reducible refine K2.o.mono ?_);rintro y w9 ⟨rfl,rfl⟩)
     | (go_at_call 115;(with_reducible refine J.o.mono ?_);rintro y w3 ⟨rfl,t⟩))
   have o:=b.trans (t.mono b.size);have R:=dH.o.below t dH.o.lt;have aw:=qh (I.below t I.lt);have ay:kv.length<maxLen:=by
    have:=HM.o.2.1;rw[bE] at this;unfold maxLen;omega
   have ar:some W.heap.size≠some v.heap.size:=λ e=>by injection e with e;have:=lJ.size;omega
   have T:w.heap.size<=w3.heap.size:=o.size;have ax:=(Fq.trans (t.mono Fq.size)).mono (bj hB hs);have a5:=qh ax;clear p0 p1 a3 NC c0 hl go_ ax K1 K2 J KX I;obtain⟨p0,p1,-,-⟩:=HS.o w3 R;by_cases h4:d.it.k=4
   .obtain⟨g4,a2⟩:=jf h4;obtain⟨g1,ab⟩:=gp (show ¬ d.it.k=1 by omega);obtain⟨g6,aA⟩:=gp (show ¬ d.it.k=6 by omega);have H4:=qh h4;clear h4;cases pg
    case false =>
     have l:=qh (P.o 7 (by decide) (a.o.trans (if_pos (.inr ⟨rfl,H4.o⟩))));go_wp2;go_ret;exact⟨ai l.o.symm,o⟩
    have a:=qh (a.o.trans ((if_neg (by rintro (⟨-,h | h⟩ | ⟨h,-⟩) <;> first | (have:=H4.o;omega) | cases h)).trans (if_pos H4.o)));obtain⟨x5,ac⟩:=af (Nh f.lists d.it.ans);rw[ac] at a;have am:=qh (λ (H:World) (m:EG w H) (hr:Below B0 wr H)=>KA.o H m (.inr trivial) (aE.o.keep hr));rw[ac] at am;clear ac KA;by_cases h5:x5=0
    case' pos =>
     have l:=qh (X.o (a.o.trans h5));obtain⟨g5,WJ⟩:=jf h5
    case' neg =>
     have l:=qh (P.o _ h5 a.o);obtain⟨g5,WJ⟩:=gp h5
    all_goals clear h5
    all_goals
     go_wp2_with (first
      | (at_mapUpdate;refine jk rfl _ _ _ 204 4 rfl Tryz.underlying204 rfl aw.o ay rfl rfl D ?_;intro H aa p;have ae:=R.grown p ar;have m:=o.grown p T (λ g hg=>by cases hg;exact G);obtain⟨z0,z1,z2,z3⟩:=HS.o H ae;have DT:=qh (bi aa Y.o);have c4:=Uy.o H m;have ao:=qh p)
      | (go_at_call 116;(with_reducible refine (am.o _ m (a5.o.grown ao.o (bj hB T) (λ g hg=>by cases hg;exact bj hB G))).mono ?_);rintro e5 w5 ⟨rfl,U⟩))
    .go_ret;exact⟨ai l.o.symm,m.trans (U.mono m.size)⟩
    go_roundw
    case rel=>exact⟨k+1,_,by go_num,aX.o,l,qh ⟨DT.o.1.below U DT.o.1.lt,DT.o.2⟩,m.trans (U.mono m.size)⟩
    case measure =>
     have:=aX.o;simp[intOf];omega
   .obtain⟨g4,a2⟩:=gp h4;have H4:=qh h4;clear h4;cases pg
    case' true =>
     by_cases h16:d.it.k=1\/d.it.k=6
     .have l:=qh (P.o 7 (by decide) (a.o.trans (if_pos (.inl ⟨rfl,h16⟩))));by_cases h1:d.it.k=1
      case' pos =>
       obtain⟨g1,ab⟩:=jf h1
      case' neg =>
       obtain⟨g1,ab⟩:=gp h1;obtain⟨g6,aA⟩:=jf (h16.resolve_left h1)
      all_goals clear h1 h16
      all_goals
       go_wp2;go_ret;exact⟨ai l.o.symm,o⟩
     obtain⟨g1,ab⟩:=gp (λ h=>h16 (.inl h));obtain⟨g6,aA⟩:=gp (λ h=>h16 (.inr h));have l:=qh (X.o (a.o.trans ((if_neg (by rintro (⟨-,h⟩ | ⟨h,-⟩);exact h16 h;cases h)).trans (if_neg H4.o))));clear h16
    case' false =>
     have l:=qh (X.o (a.o.trans ((if_neg (by rintro (⟨h,-⟩ | ⟨-,h⟩);cases h;exact H4.o h)).trans (if_neg H4.o))))
    all_goals
     go_wp2_with (first
      | (at_mapUpdate;refine jk rfl _ _ _ 204 4 rfl Tryz.underlying204 rfl aw.o ay rfl rfl D ?_;intro H aa p;have ae:=R.grown p ar;have m:=o.grown p T (λ g hg=>by cases hg;exact G);obtain⟨z0,z1,z2,z3⟩:=HS.o H ae;have DT:=qh (bi aa Y.o);have c4:=Uy.o H m;have ao:=qh p)
      | fail)
     go_roundw
     case rel=>exact⟨k+1,_,by go_num,aX.o,l,DT,m⟩
     case measure =>
      have:=aX.o;simp[intOf];omega
  .have e:k=N.length:=by omega
   subst e;have l:=qh (HP.o.trans XW);go_wp2;go_ret;exact⟨ai l.o.symm,hb⟩
end Go.Proofs.YtcnagconagpkcaaGreatDoor
namespace Go.Proofs.YtcnagconagpkcaaGreatDoor
open Go.RowKit
attribute [local go_sem ↓] Go.wp_at_zero Go.wp_at_succ
def lX (_w:World) (_B:Nat) (d:ByteArray × Int) (cs:List Value):Prop:=cs = [bd d.1,bb bc d.2]
def mr (l:List (ByteArray × Int)):List Value:=l.flatMap (λ d=>[bd d.1,bb bc d.2])
theorem IV:∀ l:List (ByteArray × Int),(mr l).length=l.length*2
 | []=>rfl
 | d :: r=>by
  have:=IV r;unfold mr at *;rw[bR,bK,this];simp[Nat.succ_mul,Nat.add_comm]
theorem Fv:∀ (l:List (ByteArray × Int)) (i:Nat) (h:i<l.length),((mr l).drop (i*2)).take 2 = [bd l[i].1,bb bc l[i].2]
 | d :: r,0,_=>by simp[mr]
 | d :: r,i+1,h=>by
  have:=Fv r i (by simpa using h);unfold mr at *;rw[bR,show (i+1)*2=2+i*2 by omega,<- List.drop_drop];simpa using this
theorem wG {w:World} {g B:Nat} {t:TypeId} {l:List (ByteArray × Int)} (h:ag w g t (mr l).toArray) (a:g<B) (c:l.length<=maxLen):au lX 2 w B (some ⟨g,0,none⟩) l:=by
 refine⟨c,mr l,⟨IV l,λ _=>⟨_,rfl,a,λ j u d=>?_⟩⟩,λ i b=>Fv l i b⟩;have e:(⟨g,0,none⟩:Addr).add j=⟨g,j,none⟩:=by unfold Addr.add;split <;> simp_all
 rw[e,h.cell j];simpa using d
def fB:List (ByteArray × Int):=[(⟨#[61]⟩,4),(⟨#[60,62]⟩,5),(⟨#[60]⟩,6),(⟨#[60,61]⟩,7),(⟨#[62]⟩,8),(⟨#[62,61]⟩,9),(⟨#[105,110]⟩,10),(⟨#[104,97,115]⟩,11)]
theorem NF (w:World):Calls Tryz.prog 278 #[] w λ e w'=>∃ ad,e = bh (be (some ad) 8 8)/\au lX 2 w' w'.heap.size (some ad) fB/\EG w w':=by
 go_enter Tryz.func278,Tryz.ntmps278;go_wp2_with fail;go_ret;have e:(mr fB).toArray = #[bd ⟨#[61]⟩,bb bc 4,bd ⟨#[60,62]⟩,bb bc 5,bd ⟨#[60]⟩,bb bc 6,bd ⟨#[60,61]⟩,bb bc 7,bd ⟨#[62]⟩,bb bc 8,bd ⟨#[62,61]⟩,bb bc 9,bd ⟨#[105,110]⟩,bb bc 10,bd ⟨#[104,97,115]⟩,bb bc 11]:=by kernel_rfl
 exact⟨_,rfl,wG (t:=359) (by rw[e];exact ag.new w 359 #[bd ⟨#[61]⟩,bb bc 4,bd ⟨#[60,62]⟩,bb bc 5,bd ⟨#[60]⟩,bb bc 6,bd ⟨#[60,61]⟩,bb bc 7,bd ⟨#[62]⟩,bb bc 8,bd ⟨#[62,61]⟩,bb bc 9,bd ⟨#[105,110]⟩,bb bc 10,bd ⟨#[104,97,115]⟩,bb bc 11]) (by simp) (by decide),(Below.refl _ w).alloc (bk _) _⟩
def ja:List (ByteArray × Int):=[(⟨#[43]⟩,15),(⟨#[45]⟩,16)]
theorem X3 (w:World):Calls Tryz.prog 279 #[] w λ e w'=>∃ ad,e = bh (be (some ad) 2 2)/\au lX 2 w' w'.heap.size (some ad) ja/\EG w w':=by
 go_enter Tryz.func279,Tryz.ntmps279;go_wp2_with fail;go_ret;have e:(mr ja).toArray = #[bd ⟨#[43]⟩,bb bc 15,bd ⟨#[45]⟩,bb bc 16]:=by kernel_rfl
 exact⟨_,rfl,wG (t:=359) (by rw[e];exact ag.new w 359 #[bd ⟨#[43]⟩,bb bc 15,bd ⟨#[45]⟩,bb bc 16]) (by simp) (by decide),(Below.refl _ w).alloc (bk _) _⟩
def jb:List (ByteArray × Int):=[(⟨#[42]⟩,17),(⟨#[47]⟩,18),(⟨#[109,111,100]⟩,19)]
theorem X4 (w:World):Calls Tryz.prog 280 #[] w λ e w'=>∃ ad,e = bh (be (some ad) 3 3)/\au lX 2 w' w'.heap.size (some ad) jb/\EG w w':=by
 go_enter Tryz.func280,Tryz.ntmps280;go_wp2_with fail;go_ret;have e:(mr jb).toArray = #[bd ⟨#[42]⟩,bb bc 17,bd ⟨#[47]⟩,bb bc 18,bd ⟨#[109,111,100]⟩,bb bc 19]:=by kernel_rfl
 exact⟨_,rfl,wG (t:=359) (by rw[e];exact ag.new w 359 #[bd ⟨#[42]⟩,bb bc 17,bd ⟨#[47]⟩,bb bc 18,bd ⟨#[109,111,100]⟩,bb bc 19]) (by simp) (by decide),(Below.refl _ w).alloc (bk _) _⟩
def fC:List (ByteArray × Int):=[(⟨#[97,110,115,119,101,114,101,100]⟩,12),(⟨#[97,115,107,101,100]⟩,13),(⟨#[114,101,97,115,111,110]⟩,14),(⟨#[97,98,115]⟩,21),(⟨#[102,108,111,111,114]⟩,22),(⟨#[114,111,117,110,100]⟩,23),(⟨#[109,105,110]⟩,24),(⟨#[109,97,120]⟩,25),(⟨#[105,102]⟩,26),(⟨#[101,108,115,101]⟩,27),(⟨#[115,105,122,101]⟩,28),(⟨#[99,111,100,101]⟩,29),(⟨#[108,111,119,101,114]⟩,30),(⟨#[106,111,105,110]⟩,31),(⟨#[98,101,103,105,110,115]⟩,32),(⟨#[104,111,108,100,115]⟩,33),(⟨#[121,101,97,114]⟩,34),(⟨#[109,111,110,116,104]⟩,35),(⟨#[100,97,121]⟩,36),(⟨#[100,97,121,115]⟩,37),(⟨#[97,103,101]⟩,38),(⟨#[108,97,116,101,114]⟩,39)]
theorem NG (w:World):Calls Tryz.prog 266 #[] w λ e w'=>∃ ad,e = bh (be (some ad) 22 22)/\au lX 2 w' w'.heap.size (some ad) fC/\EG w w':=by
 go_enter Tryz.func266,Tryz.ntmps266;go_wp2_with fail;go_ret;have e:(mr fC).toArray = #[bd ⟨#[97,110,115,119,101,114,101,100]⟩,bb bc 12,bd ⟨#[97,115,107,101,100]⟩,bb bc 13,bd ⟨#[114,101,97,115,111,110]⟩,bb bc 14,bd ⟨#[97,98,115]⟩,bb bc 21,bd ⟨#[102,108,111,111,114]⟩,bb bc 22,bd ⟨#[114,111,117,110,100]⟩,bb bc 23,bd ⟨#[109,105,110]⟩,bb bc 24,bd ⟨#[109,97,120]⟩,bb bc 25,bd ⟨#[105,102]⟩,bb bc 26,bd ⟨#[101,108,115,101]⟩,bb bc 27,bd ⟨#[115,105,122,101]⟩,bb bc 28,bd ⟨#[99,111,100,101]⟩,bb bc 29,bd ⟨#[108,111,119,101,114]⟩,bb bc 30,bd ⟨#[106,111,105,110]⟩,bb bc 31,bd ⟨#[98,101,103,105,110,115]⟩,bb bc 32,bd ⟨#[104,111,108,100,115]⟩,bb bc 33,bd ⟨#[121,101,97,114]⟩,bb bc 34,bd ⟨#[109,111,110,116,104]⟩,bb bc 35,bd ⟨#[100,97,121]⟩,bb bc 36,bd ⟨#[100,97,121,115]⟩,bb bc 37,bd ⟨#[97,103,101]⟩,bb bc 38,bd ⟨#[108,97,116,101,114]⟩,bb bc 39]:=by kernel_rfl
 exact⟨_,rfl,wG (t:=359) (by rw[e];exact ag.new w 359 #[bd ⟨#[97,110,115,119,101,114,101,100]⟩,bb bc 12,bd ⟨#[97,115,107,101,100]⟩,bb bc 13,bd ⟨#[114,101,97,115,111,110]⟩,bb bc 14,bd ⟨#[97,98,115]⟩,bb bc 21,bd ⟨#[102,108,111,111,114]⟩,bb bc 22,bd ⟨#[114,111,117,110,100]⟩,bb bc 23,bd ⟨#[109,105,110]⟩,bb bc 24,bd ⟨#[109,97,120]⟩,bb bc 25,bd ⟨#[105,102]⟩,bb bc 26,bd ⟨#[101,108,115,101]⟩,bb bc 27,bd ⟨#[115,105,122,101]⟩,bb bc 28,bd ⟨#[99,111,100,101]⟩,bb bc 29,bd ⟨#[108,111,119,101,114]⟩,bb bc 30,bd ⟨#[106,111,105,110]⟩,bb bc 31,bd ⟨#[98,101,103,105,110,115]⟩,bb bc 32,bd ⟨#[104,111,108,100,115]⟩,bb bc 33,bd ⟨#[121,101,97,114]⟩,bb bc 34,bd ⟨#[109,111,110,116,104]⟩,bb bc 35,bd ⟨#[100,97,121]⟩,bb bc 36,bd ⟨#[100,97,121,115]⟩,bb bc 37,bd ⟨#[97,103,101]⟩,bb bc 38,bd ⟨#[108,97,116,101,114]⟩,bb bc 39]) (by simp) (by decide),(Below.refl _ w).alloc (bk _) _⟩
theorem dO {w w':World} {B:Nat} {A:Option Addr} {l:List (ByteArray × Int)} (h:au lX 2 w B A l) (a:Below B w w'):au lX 2 w' B A l:=au.keep (w:=w) (w':=w') (λ _ _ h=>h) h a
def tx (l:List UInt8):ByteArray:=⟨l.toArray⟩
theorem Ce:(∀ d∈fB,d.1=tx (dN d.2))/\(∀ d∈ja,d.1=tx (dN d.2))/\(∀ d∈jb,d.1=tx (dN d.2)):=by
 refine⟨?_,?_,?_⟩ <;> · intro d a;simp only[fB,ja,jb,bS,List.not_mem_nil,or_false] at a;rcases a with rfl | a <;> first | rfl | (repeat' (first | (rcases a with rfl | a) | subst a)) <;> rfl
theorem UM:∀ d∈fC,d.1=tx (uY d.2):=by
 intro d b;have h:(fC.all λ d=>decide (d.1.data.toList=uY d.2))=true:=by decide
 have a:=br.1 h d b;rw[decide_eq_true_iff] at a;unfold tx;rw[<- a]
theorem UN {op:Int} (h:∀ d∈fC,d.2≠op):uY op = []:=by
 have g:∀ p∈vU,p.1≠op:=by
  intro p a;have e:(vU.all λ p=>fC.any λ d=>decide (d.2=p.1))=true:=by decide
  have f:=br.1 e p a;obtain⟨d,c,b⟩:=bB.1 f;rw[decide_eq_true_iff] at b;rw[<- b];exact h d c
 unfold uY;rw[List.find?_eq_none.2 (λ p a=>by simpa using g p a)]
theorem UO {op:Int} (b:∀ d∈fB,d.2≠op) (c:∀ d∈ja,d.2≠op) (a:∀ d∈jb,d.2≠op):dN op = []:=by
 simp only[fB,ja,jb,List.forall_mem_cons] at b c a;unfold dN;rw[if_neg (by omega),if_neg (by omega),if_neg (by omega),if_neg (by omega),if_neg (by omega),if_neg (by omega),if_neg (by omega),if_neg (by omega),if_neg (by omega),if_neg (by omega),if_neg (by omega),if_neg (by omega),if_neg (by omega)]
theorem JU (op:Int) (w:World):CS 243 #[bb bc op] w (bd (tx (uY op))):=by
 go_enter Tryz.func243,Tryz.ntmps243;go_wp2_with fail;refine (NG w).mono ?_;rintro L W ⟨m,rfl,y,f⟩;have C:=qh y;have g:EG W W:=Below.refl _ _;clear y;go_wp2_with fail;go_loopw [7,4] (λ i _ I=>∃ k:Nat,k<=22/\i = bb bc k/\Hid (∀ d∈fC.take k,d.2≠op)/\EG W I) (λ i _ _=>22 - (intOf i).toNat)
 case atStart=>exact⟨0,bl _,rfl,qh (λ d h=>by simp at h),g⟩
 case round =>
  obtain⟨k,N,rfl,q,c⟩:=hrel;have v:=c.size;by_cases hlt:k<22
  .have b:k<fC.length:=hlt;obtain⟨ad,G,n,E,j,a⟩:=(dO C.o c).at_ b;injection n with n;subst n;obtain⟨d,p⟩:=af (fC[k]);have o:d∈fC:=by rw[<- p];exact bn b
   have u:=qh (show fC.take (k+1)=fC.take k ++ [d] by rw[bm b,p]);rw[p] at j;have s:=qh o;have z:=qh hlt;obtain⟨r,l⟩:=d;have B:G = [bd r,bb bc l]:=j;subst B;have K:wr.cell? (m.add (k*2))=some (bd r):=a 0 _ rfl;have M:wr.cell? ⟨(m.add (k*2)).block,(m.add (k*2)).off+1,none⟩=some (bb bc l):=a 1 _ rfl;have A:(0:Int)<=(k:Nat):=by omega
   have H:(k:Int)<22:=by omega
   clear j a p o E b;by_cases ho:l=op
   .subst ho;have bo:(l == l)=true:=by simp
    have t:=qh (show tx (uY l)=r from (UM _ s.o).symm);go_wp2_with fail;go_ret;exact⟨by rw[t.o];try rfl,f.trans ((c.alloc v _).mono f.size)⟩
   .have bo:(l == op)=false:=by simp[ho]
    have J:=qh (show ∀ d∈fC.take (k+1),d.2≠op by
     rw[u.o];intro x F;rcases bs.1 F with h | h
     .exact q.o x h
     .rw[bt] at h;rw[h];exact ho)
    clear ho;go_wp2_with fail;go_roundw
    case rel=>exact⟨k+1,z.o,by go_num,J,c.alloc v _⟩
    case measure =>
     have:=z.o;simp[intOf];omega
  .have D:=qh (show ∀ d∈fC,d.2≠op by have h:=q.o;rwa [bv (show fC.length<=k by show 22<=k;omega)] at h);clear q;have t:=qh (show tx (uY op)=⟨#[]⟩ by rw[UN D.o];rfl);go_wp2_with fail;go_ret;exact⟨by rw[t.o];try rfl,f.trans (c.mono f.size)⟩
theorem mF {w:World} {B B':Nat} {A:Option Addr} {l:List (ByteArray × Int)} (h:au lX 2 w B A l) (d:B<=B'):au lX 2 w B' A l:=by
 obtain⟨b,cs,c,a⟩:=h;exact⟨b,cs,c.more d,a⟩
theorem Qp (op:Int) (w:World):CS 265 #[bb bc op] w (bd (tx (dN op))):=by
 go_enter Tryz.func265,Tryz.ntmps265;go_wp2_with fail;refine (NF w).mono ?_;rintro en W1 ⟨J,rfl,R,F⟩;go_wp2_with fail;refine (X3 W1).mono ?_;rintro en W2 ⟨K,rfl,S,t⟩;go_wp2_with fail;refine (X4 W2).mono ?_;rintro en r ⟨I,rfl,aa,u⟩;have v:=(F.trans (t.mono F.size)).trans (u.mono (bj F.size t.size));have D:=qh (show au lX 2 r r.heap.size (some J) fB/\au lX 2 r r.heap.size (some K) ja/\au lX 2 r r.heap.size (some I) jb from
  ⟨mF (dO (dO R t) (u.mono t.size)) (bj t.size u.size),mF (dO S u) u.size,aa⟩)
 clear R S aa F t u;go_upto_region 2 with (fail);obtain⟨Wo,E⟩:=aH (r.alloc (.cells #[be (some J) 8 8,be (some K) 2 2,be (some I) 3 3] 356 (0,0)));have L:EG r Wo:=E▸(Below.refl _ r).alloc (bk _) _;have M:ag Wo r.heap.size 356 #[be (some J) 8 8,be (some K) 2 2,be (some I) 3 3]:=E▸ag.new r _ _;rw[<- E];have p:=v.trans (L.mono v.size);have HT:=qh (show au lX 2 Wo Wo.heap.size (some J) fB/\au lX 2 Wo Wo.heap.size (some K) ja/\au lX 2 Wo Wo.heap.size (some I) jb from
  ⟨mF (dO D.o.1 L) L.size,mF (dO D.o.2.1 L) L.size,mF (dO D.o.2.2 L) L.size⟩)
 have O:=qh M;clear E L M D v;go_loopw [12,4,6,18] (λ i _ _ _ wo=>∃ n:Nat,n<=3/\i = bb bc n/\Hid ((0<n->∀ d∈fB,d.2≠op)/\(1<n->∀ d∈ja,d.2≠op)/\(2<n->∀ d∈jb,d.2≠op))/\EG Wo wo) (λ i _ _ _ _=>3 - (intOf i).toNat)
 case atStart=>exact⟨0,by omega,rfl,qh ⟨λ h=>by omega,λ h=>by omega,λ h=>by omega⟩,Below.refl _ _⟩
 case round =>
  obtain⟨n,hn,rfl,o,m⟩:=hrel;have M:=O.o.below m O.o.lt;have am:wr.cell? ⟨r.heap.size,0,none⟩=some (be (some J) 8 8):=M.cell 0;have ak:wr.cell? ⟨r.heap.size,1,none⟩=some (be (some K) 2 2):=M.cell 1;have al:wr.cell? ⟨r.heap.size,2,none⟩=some (be (some I) 3 3):=M.cell 2;clear M;obtain rfl | rfl | rfl | rfl:n=0\/n=1\/n=2\/n=3:=by omega
  .skip
   have vF:=qh (dO HT.o.1 m);have f:EG wr wr:=Below.refl _ _;have A:=qh (mF vF.o m.size);go_wp2_with fail;go_loopw [18,6] (λ i _ Z=>∃ k:Nat,k<=8/\i = bb bc k/\Hid (∀ d∈fB.take k,d.2≠op)/\EG wr Z) (λ i _ _=>8 - (intOf i).toNat)
   case atStart=>exact⟨0,bl _,rfl,qh (λ d h=>by simp at h),f⟩
   case round =>
    obtain⟨k,hk,rfl,B,c⟩:=hrel;have G:=c.size;by_cases hlt:k<8
    .have b:k<fB.length:=hlt;obtain⟨ad,V,l,X,j,a⟩:=(dO A.o c).at_ b;injection l with l;subst l;obtain⟨d,s⟩:=af (fB[k]);have q:d∈fB:=by rw[<- s];exact bn b
     have z:=qh (show fB.take (k+1)=fB.take k ++ [d] by rw[bm b,s]);rw[s] at j;have y:=qh q;have H:=qh hlt;obtain⟨C,g⟩:=d;have P:V = [bd C,bb bc g]:=j;subst P;have qJ:wr.cell? (J.add (k*2))=some (bd C):=a 0 _ rfl;have rU:wr.cell? ⟨(J.add (k*2)).block,(J.add (k*2)).off+1,none⟩=some (bb bc g):=a 1 _ rfl;have U:(0:Int)<=(k:Nat):=by omega
     have T:(k:Int)<8:=by omega
     clear j a s q X b;by_cases ho:g=op
     .subst ho;have bo:(g == g)=true:=by simp
      have N:=qh (show tx (dN g)=C from (Ce.1 _ y.o).symm);go_wp2_with fail;go_ret;exact⟨by rw[N.o];try rfl,p.trans ((m.trans ((c.alloc G _).mono m.size)).mono p.size)⟩
     .have bo:(g == op)=false:=by simp[ho]
      have W:=qh (show ∀ d∈fB.take (k+1),d.2≠op by
       rw[z.o];intro x Y;rcases bs.1 Y with h | h
       .exact B.o x h
       .rw[bt] at h;rw[h];exact ho)
      clear ho;go_wp2_with fail;go_roundw
      case rel=>exact⟨k+1,H.o,by go_num,W,c.alloc G _⟩
      case measure =>
       have:=H.o;simp[intOf];omega
    .have Q:=qh (show ∀ d∈fB,d.2≠op by have h:=B.o;rwa [bv (show fB.length<=k by show 8<=k;omega)] at h);clear B;have ab:=Q;go_wp2_with fail;go_roundw
     case rel=>exact⟨0+1,by omega,by rfl,qh ⟨λ _=>ab.o,λ h=>o.o.2.1 (by omega),λ h=>o.o.2.2 (by omega)⟩,(m.trans (c.mono m.size))⟩
     case measure=>simp[intOf]
  .skip
   have vF:=qh (dO HT.o.2.1 m);have f:EG wr wr:=Below.refl _ _;have A:=qh (mF vF.o m.size);go_wp2_with fail;go_loopw [18,6] (λ i _ Z=>∃ k:Nat,k<=2/\i = bb bc k/\Hid (∀ d∈ja.take k,d.2≠op)/\EG wr Z) (λ i _ _=>2 - (intOf i).toNat)
   case atStart=>exact⟨0,bl _,rfl,qh (λ d h=>by simp at h),f⟩
   case round =>
    obtain⟨k,hk,rfl,B,c⟩:=hrel;have G:=c.size;by_cases hlt:k<2
    .have b:k<ja.length:=hlt;obtain⟨ad,V,l,X,j,a⟩:=(dO A.o c).at_ b;injection l with l;subst l;obtain⟨d,s⟩:=af (ja[k]);have q:d∈ja:=by rw[<- s];exact bn b
     have z:=qh (show ja.take (k+1)=ja.take k ++ [d] by rw[bm b,s]);rw[s] at j;have y:=qh q;have H:=qh hlt;obtain⟨C,g⟩:=d;have P:V = [bd C,bb bc g]:=j;subst P;have qJ:wr.cell? (K.add (k*2))=some (bd C):=a 0 _ rfl;have rU:wr.cell? ⟨(K.add (k*2)).block,(K.add (k*2)).off+1,none⟩=some (bb bc g):=a 1 _ rfl;have U:(0:Int)<=(k:Nat):=by omega
     have T:(k:Int)<2:=by omega
     clear j a s q X b;by_cases ho:g=op
     .subst ho;have bo:(g == g)=true:=by simp
      have N:=qh (show tx (dN g)=C from (Ce.2.1 _ y.o).symm);go_wp2_with fail;go_ret;exact⟨by rw[N.o];try rfl,p.trans ((m.trans ((c.alloc G _).mono m.size)).mono p.size)⟩
     .have bo:(g == op)=false:=by simp[ho]
      have W:=qh (show ∀ d∈ja.take (k+1),d.2≠op by
       rw[z.o];intro x Y;rcases bs.1 Y with h | h
       .exact B.o x h
       .rw[bt] at h;rw[h];exact ho)
      clear ho;go_wp2_with fail;go_roundw
      case rel=>exact⟨k+1,H.o,by go_num,W,c.alloc G _⟩
      case measure =>
       have:=H.o;simp[intOf];omega
    .have Q:=qh (show ∀ d∈ja,d.2≠op by have h:=B.o;rwa [bv (show ja.length<=k by show 2<=k;omega)] at h);clear B;have ac:=Q;go_wp2_with fail;go_roundw
     case rel=>exact⟨1+1,by omega,by rfl,qh ⟨λ h=>o.o.1 (by omega),λ _=>ac.o,λ h=>o.o.2.2 (by omega)⟩,(m.trans (c.mono m.size))⟩
     case measure=>simp[intOf]
  .skip
   have vF:=qh (dO HT.o.2.2 m);have f:EG wr wr:=Below.refl _ _;have A:=qh (mF vF.o m.size);go_wp2_with fail;go_loopw [18,6] (λ i _ Z=>∃ k:Nat,k<=3/\i = bb bc k/\Hid (∀ d∈jb.take k,d.2≠op)/\EG wr Z) (λ i _ _=>3 - (intOf i).toNat)
   case atStart=>exact⟨0,bl _,rfl,qh (λ d h=>by simp at h),f⟩
   case round =>
    obtain⟨k,hk,rfl,B,c⟩:=hrel;have G:=c.size;by_cases hlt:k<3
    .have b:k<jb.length:=hlt;obtain⟨ad,V,l,X,j,a⟩:=(dO A.o c).at_ b;injection l with l;subst l;obtain⟨d,s⟩:=af (jb[k]);have q:d∈jb:=by rw[<- s];exact bn b
     have z:=qh (show jb.take (k+1)=jb.take k ++ [d] by rw[bm b,s]);rw[s] at j;have y:=qh q;have H:=qh hlt;obtain⟨C,g⟩:=d;have P:V = [bd C,bb bc g]:=j;subst P;have qJ:wr.cell? (I.add (k*2))=some (bd C):=a 0 _ rfl;have rU:wr.cell? ⟨(I.add (k*2)).block,(I.add (k*2)).off+1,none⟩=some (bb bc g):=a 1 _ rfl;have U:(0:Int)<=(k:Nat):=by omega
     have T:(k:Int)<3:=by omega
     clear j a s q X b;by_cases ho:g=op
     .subst ho;have bo:(g == g)=true:=by simp
      have N:=qh (show tx (dN g)=C from (Ce.2.2 _ y.o).symm);go_wp2_with fail;go_ret;exact⟨by rw[N.o];try rfl,p.trans ((m.trans ((c.alloc G _).mono m.size)).mono p.size)⟩
     .have bo:(g == op)=false:=by simp[ho]
      have W:=qh (show ∀ d∈jb.take (k+1),d.2≠op by
       rw[z.o];intro x Y;rcases bs.1 Y with h | h
       .exact B.o x h
       .rw[bt] at h;rw[h];exact ho)
      clear ho;go_wp2_with fail;go_roundw
      case rel=>exact⟨k+1,H.o,by go_num,W,c.alloc G _⟩
      case measure =>
       have:=H.o;simp[intOf];omega
    .have Q:=qh (show ∀ d∈jb,d.2≠op by have h:=B.o;rwa [bv (show jb.length<=k by show 3<=k;omega)] at h);clear B;have ae:=Q;go_wp2_with fail;go_roundw
     case rel=>exact⟨2+1,by omega,by rfl,qh ⟨λ h=>o.o.1 (by omega),λ h=>o.o.2.1 (by omega),λ _=>ae.o⟩,(m.trans (c.mono m.size))⟩
     case measure=>simp[intOf]
  .have N:=qh (show tx (dN op)=⟨#[]⟩ by rw[UO (o.o.1 (by omega)) (o.o.2.1 (by omega)) (o.o.2.2 (by omega))];rfl);go_wp2_with fail;go_ret;exact⟨by rw[N.o];try rfl,p.trans (m.mono p.size)⟩
end Go.Proofs.YtcnagconagpkcaaGreatDoor
namespace Go.Proofs.YtcnagconagpkcaaGreatDoor.Vtx
open Go.Lib Dig
theorem DU (l:List UInt8) (c:UInt8):∃ k,l=trimRightB l c ++ bT k c:=by
 have h:=List.takeWhile_append_dropWhile (p:=λ b:UInt8=>b == c) (l:=l.reverse);have a:l=(l.reverse.dropWhile (· == c)).reverse ++ (l.reverse.takeWhile (· == c)).reverse:=by
  have:=congrArg List.reverse h;rw[List.reverse_append,List.reverse_reverse] at this;exact this.symm
 refine⟨(l.reverse.takeWhile (· == c)).length,?_⟩;have d:(l.reverse.takeWhile (· == c)).reverse=bT (l.reverse.takeWhile (· == c)).length c:=by
  rw[List.eq_replicate_iff];refine⟨by simp,λ b e=>?_⟩;have:=br.1 (List.all_takeWhile (p:=λ b:UInt8=>b == c) (l:=l.reverse)) b (List.mem_reverse.1 e);simpa using this
 rw[<- d];exact a
theorem NI {m:Nat} (h:m<10000):XD (jq m) 4=oQ 4 m/\(jq m).length<=4:=by
 have c:(decDigits m).length<=4:=iD 3 m h;obtain⟨k,b⟩:=DU (oQ 4 m) 48;have a:=tZ c;have e:=congrArg List.length b;rw[a] at e;simp only[bK,List.length_replicate] at e;unfold XD jq;refine⟨?_,by omega⟩;rw[show 4 - (trimRightB (oQ 4 (m:Int)) 48).length=k by omega];exact b.symm
theorem IW {n:Int} (d : -999999999999999<=n) (e:n<=999999999999999):∃ F M:Nat,F<=99999999999/\M<10000/\oC n=((F*10000+M:Nat):Int) /\
  qF n=(if n<0 then [45] else []) ++ decDigits F ++ (if jq M = [] then [] else 46 :: jq M):=by
 have c:0<=oC n/\oC n<=999999999999999:=by unfold oC;split <;> omega
 refine⟨(oC n).toNat / 10000,(oC n).toNat % 10000,by omega,by omega,by omega,?_⟩;have a:oC n / 10000=(((oC n).toNat / 10000:Nat):Int):=by omega
 have b:oC n % 10000=(((oC n).toNat % 10000:Nat):Int):=by omega
 unfold qF;rw[a,b,lD]
theorem zQ (F:Nat):∃ b r,decDigits F=b :: r/\dK b:=by
 cases h:decDigits F with
 | nil=>exact absurd h (JG F)
 | cons b r=>exact⟨b,r,rfl,xA F b (by rw[h];exact bw ..)⟩
theorem X5 {b:UInt8} (h:dK b) {c:UInt8} (a:¬ dK c):b≠c:=λ e=>a (e▸h)
theorem UQ {l:List UInt8} {b:UInt8} {r:List UInt8} (e:l=b :: r) (h:dK b):hasPrefix l [45]=false:=by
 subst e;simp[hasPrefix,bx];exact λ e=>X5 h XE e.symm
theorem Qq {l:List UInt8} {b:UInt8} {r:List UInt8} (e:l=b :: r) (h:dK b):trimPrefix l [45]=l:=by
 unfold trimPrefix;rw[UQ e h];simp
theorem Qr (l:List UInt8):trimPrefix ([45] ++ l) [45]=l/\hasPrefix ([45] ++ l) [45]=true:=by
 have h:hasPrefix ([45] ++ l) [45]=true:=by simp[hasPrefix,bx]
 exact⟨by unfold trimPrefix;rw[if_pos h];rfl,h⟩
theorem aby (F M:Nat):(cut (decDigits F ++ (if jq M = [] then [] else 46 :: jq M)) [46]).1=decDigits F/\(cut (decDigits F ++ (if jq M = [] then [] else 46 :: jq M)) [46]).2.1=jq M:=by
 have hF:(46:UInt8) ∉ decDigits F:=JH (xA F) ajH;by_cases h:jq M = []
 .rw[if_pos h,List.append_nil,XF hF,h];exact⟨rfl,rfl⟩
 .rw[if_neg h,adI _ hF];exact⟨rfl,rfl⟩
theorem X6 {n:Int} (m : -999999999999999<=n) (p:n<=999999999999999):jF (qF n)=some n:=by
 obtain⟨F,M,hF,a,c,e⟩:=IW m p;obtain⟨g,o⟩:=aby F M;obtain⟨h,q⟩:=NI a;have i:=BM (n:=F) (by have:=iD 10 F (by omega);omega);have d:=xC (w:=4) (n:=M) (iD 3 M a) (by decide);have l:=tZ (w:=4) (n:=M) (iD 3 M a);have key:∀ s,trimPrefix s [45]=decDigits F ++ (if jq M = [] then [] else 46 :: jq M)->jF s=some (if (decDigits F ++ (if jq M = [] then [] else 46 :: jq M)).length<s.length then -((F*10000+M:Nat):Int) else ((F*10000+M:Nat):Int)):=by
  intro s j;unfold jF;simp only[j,g,o,h,i,d,l];rw[if_pos ⟨trivial,trivial,by decide,hF⟩]
 by_cases hn:n<0
 .rw[if_pos hn,List.append_assoc] at e;rw[key _ (by rw[e];exact (Qr _).1),e,if_pos (by simp),<- c];unfold oC;rw[if_pos hn];simp
 .rw[if_neg hn,List.nil_append] at e;obtain⟨b,r,f,k⟩:=zQ F;rw[key _ (by rw[e];exact Qq (by rw[f];rfl) k),e,if_neg (by omega),<- c];unfold oC;rw[if_neg hn]
theorem sF {c:Int} (h:0<=c):iG c=35 :: decDigits c.toNat:=by
 unfold iG;obtain⟨m,rfl⟩:∃ m:Nat,c=m:=⟨c.toNat,by omega⟩;rw[lD];simp
theorem abz {c:Int} (h:0<=c) {x:UInt8} (b:¬ dK x) (a:x≠35):x ∉ iG c:=by
 rw[sF h];intro d;rcases bS.1 d with e | e
 .exact a e
 .exact b (xA _ x e)
theorem adV (l:List UInt8):trimPrefix (35 :: l) [35]=l:=by simp[trimPrefix,hasPrefix,bx]
theorem Fz:∀ {l:List Int},(∀ c∈l,1<=c/\c<=999)->nN (l.map iG)=some l
 | [],_=>rfl
 | c :: r,h=>by
  have d:=h c (bw ..);have b:=BM (n:=c.toNat) (by have:=iD 2 c.toNat (by omega);omega);simp only[bA,nN];rw[sF (by omega),adV,b,if_pos rfl,Fz (λ x a=>h x (bX _ a))];simp;omega
theorem Qs {c:Int} {r:List Int} (h:∀ x∈c :: r,1<=x/\x<=999):(∃ t,join ((c :: r).map iG) [44]=35 :: t)/\(∃ t b,join ((c :: r).map iG) [44]=t ++ [b]/\dK b):=by
 have g:∀ (c:Int),1<=c->∃ t b,iG c=t ++ [b]/\dK b:=by
  intro c k;rw[sF (by omega)];have a:=JG c.toNat;refine⟨35 :: (decDigits c.toNat).dropLast,(decDigits c.toNat).getLast a,?_,xA _ _ (List.getLast_mem a)⟩;rw[b0,List.dropLast_concat_getLast]
 constructor
 .rw[bA,join_cons,sF (by have:=h c (bw ..);omega)];exact⟨_,rfl⟩
 .induction r generalizing c with
  | nil =>
   rw[bA,List.map_nil,join_one];exact g c (h c (bw ..)).1
  | cons d r ih =>
   obtain⟨t,b,e,i⟩:=ih (c:=d) (λ x f=>h x (bX _ f));have j:join ((c :: d :: r).map iG) [44]=iG c ++ 44 :: join ((d :: r).map iG) [44]:=by
    simp only[bA];rw[join_cons,join_cons];simp[joinTail]
   rw[j,e];exact⟨iG c ++ 44 :: t,b,by simp,i⟩
theorem UR (l:List Int):ET (zF l)=join (l.map iG) [44]:=by
 unfold ET zF;have a:trimPrefix (123 :: join (l.map iG) [44] ++ [125]) [123]=join (l.map iG) [44] ++ [125]:=by simp[trimPrefix,hasPrefix,bx]
 rw[a];have b:hasSuffix (join (l.map iG) [44] ++ [125]) [125]=true:=by
  unfold hasSuffix;rw[b4];exact⟨_,rfl⟩
 unfold trimSuffix;rw[if_pos b];simp
theorem X7 {l:List Int} (h:∀ c∈l,1<=c/\c<=999):∀ p∈l.map iG,(44:UInt8) ∉ p:=by
 intro p a;obtain⟨c,b,rfl⟩:=List.mem_map.1 a;exact abz (by have:=h c b;omega) ajI (by decide)
theorem X8 {l:List Int} (h:∀ c∈l,1<=c/\c<=999):jG (zF l)=some l:=by
 unfold jG;rw[UR];cases l with
 | nil=>rfl
 | cons c r =>
  obtain⟨⟨t,a⟩,-⟩:=Qs h;rw[if_neg (by rw[a];simp),EW (by simp) (X7 h),Fz h]
theorem IX {n:Int} (f : -25567<=n) (g:n<=84005):∃ y m d:Nat,Cal.cy n=y/\Cal.cm n=m/\Cal.cd n=d/\y<10000/\m<100/\d<100/\Cal.lT y m d=true/\Cal.num y m d=n:=by
 have h:=Cal.MX f g;have l:=Cal.yG f g h.year.1 h.year.2;have p:=Cal.EN (Cal.cy n) (Cal.cm n);have i:=h.m1;have k:=h.m2;have j:=h.d1;have o:=h.d2;have e:Cal.lT (Cal.cy n) (Cal.cm n) (Cal.cd n)=true:=by rw[Cal.tX];exact⟨l,⟨h.m1,h.m2⟩,h.d1,h.d2⟩
 have b:Cal.cy n=((Cal.cy n).toNat:Int):=by omega
 have a:Cal.cm n=((Cal.cm n).toNat:Int):=by omega
 have c:Cal.cd n=((Cal.cd n).toNat:Int):=by omega
 refine⟨(Cal.cy n).toNat,(Cal.cm n).toNat,(Cal.cd n).toNat,b,a,c,by omega,by omega,by omega,?_,?_⟩
 .rw[<- b,<- a,<- c];exact e
 .rw[<- b,<- a,<- c];exact h.eq
theorem X9 {n:Int} (p : -25567<=n) (q:n<=84005):jm (yH n).tail=some n:=by
 obtain⟨y,m,d,o,h,j,k,l,i,a,b⟩:=IX p q;have g:=iD 3 y k;have c:=iD 1 m l;have f:=iD 1 d i;have e:(yH n).tail=oQ 4 y ++ 45 :: (oQ 2 m ++ 45 :: oQ 2 d):=by
  unfold yH;rw[o,h,j];simp
 unfold jm;rw[e,EU _ (JH (Ea 4 y) XE),EU _ (JH (Ea 2 m) XE),IJ (JH (Ea 2 d) XE)];simp only[xC g (by decide),xC c (by decide),xC f (by decide)];rw[if_pos (by simp[a]),b]
theorem Ya {n:Int} (f : -999999999999999<=n) (g:n<=999999999999999):∃ b r,qF n=b :: r/\(dK b\/(b=45/\∃ c t,r=c :: t)):=by
 obtain⟨F,M,hF,h,i,e⟩:=IW f g;obtain⟨b,r,a,d⟩:=zQ F;by_cases hn:n<0
 .rw[if_pos hn,a] at e;exact⟨45,_,by rw[e];rfl,.inr ⟨rfl,_,_,rfl⟩⟩
 .rw[if_neg hn,a] at e;exact⟨b,_,by rw[e];rfl,.inl d⟩
theorem abA {n:Int} (d : -999999999999999<=n) (f:n<=999999999999999):qF n≠[]/\qF n≠[45]/\qF n≠qL/\qF n≠ny/\(qF n).head?≠some 39/\(qF n).head?≠some 35/\(qF n).head?≠some 123/\(qF n).head?≠some 64/\qF n≠w1T/\qF n≠w2T/\qF n≠w3T:=by
 obtain⟨b,r,e,h⟩:=Ya d f;rw[e];have a:∀ c:UInt8,¬ dK c->c≠45->b≠c:=by
  intro c m i l;rcases h with h | ⟨h,-⟩
  .exact m (l▸h)
  .exact i (l▸h)
 have k:∀ c:UInt8,¬ dK c->c≠45->∀ t,b :: r≠c :: t:=λ c d f t e=>a c d f (List.cons.inj e).1;have g:∀ c:UInt8,¬ dK c->c≠45->(b :: r).head?≠some c:=λ c d f e=>a c d f (by simpa using e);refine⟨by simp,?_,k _ (by unfold dK;decide) (by decide) _,k _ (by unfold dK;decide) (by decide) _,g _ (by unfold dK;decide) (by decide),g _ (by unfold dK;decide) (by decide),g _ (by unfold dK;decide) (by decide),g _ (by unfold dK;decide) (by decide),k _ (by unfold dK;decide) (by decide) _,k _ (by unfold dK;decide) (by decide) _,k _ (by unfold dK;decide) (by decide) _⟩;intro j;rcases h with h | ⟨-,c,t,o⟩
 .exact XE ((List.cons.inj j).1▸h)
 .rw[o] at j;cases (List.cons.inj j).2
theorem UT (s:List UInt8):trimSuffix (replaceAll s [39] [39,39] ++ [39]) [39]=replaceAll s [39] [39,39]:=by
 have a:hasSuffix (replaceAll s [39] [39,39] ++ [39]) [39]=true:=by
  unfold hasSuffix;rw[b4];exact⟨_,rfl⟩
 unfold trimSuffix;rw[if_pos a];simp
theorem uu {k n:Int} {s:List UInt8} {l:List Int} (h:WG k n s l):bV (showT k n s l)=some ⟨k,n,s,l⟩:=by
 cases h with
 | none_=>decide +kernel
 | word h1 h2 =>
  obtain rfl | rfl | rfl:n=1\/n=2\/n=3:=by omega
  all_goals rfl
 | num h1 h2 =>
  obtain⟨q,j,d,f,i,c,p,g,o,a,b⟩:=abA h1 h2;show bV (qF n)=_;unfold bV;rw[if_neg q,if_neg j,if_neg d,if_neg f,if_neg i,if_neg c,if_neg p,if_neg g,if_neg o,if_neg a,if_neg b,X6 h1 h2];rfl
 | text s =>
  show bV (Na s)=_;unfold bV Na;rw[if_neg (by simp),if_neg (by simp),if_neg (by simp[qL]),if_neg (by simp[ny]),if_pos (by simp)];simp only[b0,b5];rw[UT,back]
 | code h1 h2 =>
  show bV (iG n)=_;have m:=BM (n:=n.toNat) (by have:=iD 2 n.toNat (by omega);omega);rw[sF (by omega)];unfold bV;rw[if_neg (by simp),if_neg (by simp),if_neg (by simp[qL]),if_neg (by simp[ny]),if_neg (by simp),if_pos (by simp)];simp only[b5,m,if_true];rw[show ((n.toNat:Nat):Int)=n by omega]
 | set h =>
  show bV (zF l)=_;have e:(zF l).head?=some 123:=by simp[zF]
  unfold bV;rw[if_neg (by simp[zF]),if_neg (by simp[zF]),if_neg (by simp[zF,qL]),if_neg (by simp[zF,ny]),if_neg (by rw[e];simp),if_neg (by rw[e];simp),if_pos e,X8 h];rfl
 | day h1 h2 =>
  show bV (yH n)=_;have e:(yH n).head?=some 64:=by simp[yH]
  unfold bV;rw[if_neg (by simp[yH]),if_neg (by simp[yH]),if_neg (by simp[yH,qL]),if_neg (by simp[yH,ny]),if_neg (by rw[e];simp),if_neg (by rw[e];simp),if_neg (by rw[e];simp),if_pos e,X9 h1 h2];rfl
 | bool h1 h2 =>
  obtain rfl | rfl:n=0\/n=1:=by omega
  all_goals rfl
end Go.Proofs.YtcnagconagpkcaaGreatDoor.Vtx
