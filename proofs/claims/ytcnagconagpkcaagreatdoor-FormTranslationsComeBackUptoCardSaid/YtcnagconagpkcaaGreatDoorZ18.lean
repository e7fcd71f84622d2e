/- Lemmas. -/
import Derived.Test.YtcnagconagpkcaaGreatDoorZ17
open Go.Value renaming int->bm, string->bo, slice->bp, pointer->bq, bool->br, oneCell'->bE
open Go.IntKind renaming i64->bn
open Go.Ending renaming returned->bs
open Nat renaming le_trans->bt, lt_of_lt_of_le->bw, zero_le->bx, le_refl->bB
open And renaming intro->bv
open List renaming take_succ_eq_append_getElem->bz, drop_length->bA, drop_eq_getElem_cons->bL, length_take->bN, getElem_mem->bO, eq_nil_of_length_eq_zero->bP, all_eq_true->bR, mem_singleton->bS, length_reverse->bX, reverse_append->b0
set_option maxHeartbeats 4000000
set_option maxRecDepth 100000
namespace Go.Proofs.YtcnagconagpkcaaGreatDoor
open Tryz
open Tryz renaming prog->lM
section
open Go.RowKit
attribute [local go_sem ↓] Go.wp_at_zero Go.wp_at_succ
theorem box (w:World) (T:TypeId) (cs:Array Value):∃ W,W=w.alloc (.cells cs T (0,0))/\DD w W/\ah W w.heap.size T cs:=⟨_,rfl,az w _,ah.new w _ _⟩
theorem Rx {a:Nat} {l:List aS} {k:Nat} (h:k<l.length):mD a (l.take k) (l.drop k)=if aP l[k].nm.data.toList=false then 5 else if (l.take k).any (λ p=>decide (p.nm=l[k].nm)) then 6 else if aW l[k].os.length 1 40=true then 2 else
  if qp a [] l[k].os≠0 then qp a [] l[k].os else mD a (l.take (k+1)) (l.drop (k+1)):=by
 rw[bL h,mD,bz h]
theorem Wl {a:Nat} {l:List kN} {k:Nat} (h:k<l.length):qp a (l.take k) (l.drop k)=if aW l[k].code 1 999=true then 1 else if (l.take k).any (λ p=>decide (p.code=l[k].code)) then 6 else
  if pq (λ _=>(0,0)) a false l[k].ph≠0 then pq (λ _=>(0,0)) a false l[k].ph else qp a (l.take (k+1)) (l.drop (k+1)):=by
 rw[bL h,qp,bz h]
def TP (kv:List (ByteArray × Value)) (l:List aS):Prop:=kv.length<=l.length/\∀ s,di kv s=if l.any (λ d=>decide (d.nm=s))=true then some (br true) else none
theorem TP.add {a:List (ByteArray × Value)} {l:List aS} {k:Nat} (h:TP a (l.take k)) (b:k<l.length):TP ((l[k].nm,br true) :: a) (l.take (k+1)):=by
 refine⟨by have:=h.1;simp at this ⊢;omega,λ s=>?_⟩;rw[bz b,List.any_append,di];by_cases e:l[k].nm=s
 .simp[e]
 .simp only[e,if_false,List.any_cons,decide_false,List.any_nil,Bool.or_false];exact h.2 s
theorem Wn {l:List kN} {c:Int}:decide (c∈l.map kN.code)=l.any (λ p=>decide (p.code=c)):=by
 rw[Bool.eq_iff_iff,decide_eq_true_iff,List.any_eq_true,List.mem_map];exact⟨λ ⟨p,b,a⟩=>⟨p,b,by simpa using a⟩,λ ⟨p,b,a⟩=>⟨p,b,by simpa using a⟩⟩
theorem Ry {w:World} {B0 gb m1 m2 m3:Nat} {x:jS} {f:aI} {N:List au} {K:aY} (h:aT w B0 gb m1 m2 m3 x f N K) {cg:Nat} (aM:w.cell? ⟨cg,0,none⟩=some (bq (some ⟨gb,0,none⟩))) (bc:cg<w.heap.size) (hN:gW N) (H:Tab w) (aL:Mx w) :
  CS 72 #[bq (some ⟨cg,0,none⟩)] w (bm bn (jH f)):=by
 have y:=h.le;have c3:w.cell? ⟨gb,3,none⟩=some (bp x.AS f.lists.length x.cs):=h.blk.cell 3;have HL:=qh (bv h.form.ls h.form.li);have ak:=qh (show ∀ w' p A c B,DD w w'->kz w' B A c p->B<=w'.heap.size->Calls lM 112 #[bq (some ⟨cg,0,none⟩),bp A p.length c,bm bn (-1),br false] w' λ e bb=>e = bs (bm bn (pq (λ _=>(0,0)) f.ag.length false p))/\DD w' bb from
  λ w' p A c B v hp y=>yB (h.keep v) (Below.cell_of v aM) (bw bc v.size) hN hp y (λ h=>by cases h) (aB H v) (aL.below v))
 obtain⟨AS,Xh⟩:=af (x.AS);rw[Xh] at c3 HL;have bg:=h.blk.lt;obtain⟨cS,ag⟩:=af (x.cs);rw[ag] at c3 HL;have a8:=HL.o.2;have Y:=qh (jH.eq_def f);obtain⟨R,hR⟩:=af (jH f);rw[hR] at Y ⊢;obtain⟨nl,ar⟩:=af (f.ag.length);rw[ar] at Y ak;obtain⟨L,hL⟩:=af (f.lists);rw[hL] at Y HL c3 a8;clear h Xh ag hR ar hL H aL hN;by_cases h60:60<L.length
 .have m:=qh (Y.o.trans (if_pos h60));have aR:(60:Int)<L.length:=by omega
  go_enter func72,ntmps72;go_wp2;go_ret;exact⟨aj m.o.symm,Below.refl _ _⟩
 have Y:=qh (Y.o.trans (if_neg h60));have aR:¬ (60:Int)<L.length:=by omega
 have ac:=@run_makeMap lM;go_enter func72,ntmps72;go_wp2;have a5:=qh (aO.made w);clear c3 aM ac;go_loopw [30] (λ i wr=>∃ (k:Nat) (kv:List (ByteArray × Value)),i = bm bn k/\k<=L.length/\Hid (R=mD nl (L.take k) (L.drop k))/\Hid (aO wr w.heap.size kv/\TP kv (L.take k))/\DD w wr) (λ i _=>62 - (intOf i).toNat)
 case atStart=>exact⟨0,[],rfl,bx _,Y,qh ⟨a5.o,by simp,λ s=>rfl⟩,az w _⟩
 case round =>
  obtain⟨k,kv,rfl,hk,l,HM,v⟩:=hrel;have hs:=v.size;by_cases hlt:k<L.length
  case neg =>
   obtain rfl:k=L.length:=by omega
   have m:=qh (show R=0 from l.o.trans (by rw[bA];rfl));go_wp2;go_ret;exact⟨aj m.o.symm,v⟩
  have l:=qh (l.o.trans (Rx hlt));have aw:=qh (HM.o.2.add hlt);obtain⟨ad,ci,rfl,T,⟨A,c,rfl,P,a4,E⟩,a⟩:=aF.at_ (aF.keep (λ _ _ h=>h.keep (v.mono y)) HL.o.1 (v.mono y)) hlt;obtain⟨d,hd⟩:=af (L[k]);rw[hd] at a P a4 E l aw;have p0:wr.cell? (ad.add (k*2))=some (bo d.nm):=a 0 _ rfl;have p1:wr.cell? ⟨(ad.add (k*2)).block,(ad.add (k*2)).off+1,none⟩=some (bp A d.os.length c):=a 1 _ rfl;obtain⟨W,hW,oM,BW⟩:=box wr 92 #[bo d.nm,bp A d.os.length c];have q0:=BW.cell 0;have q1:=BW.cell 1;have n:=v.trans (oM.mono hs);have aV:=qh hlt;have a6:=qh P;have a0:kv.length<maxLen:=by
   have:=HM.o.2.1;rw[bN] at this;unfold maxLen;omega
  have tu:=HM.o.1.lt;have S:=HM.o.1.below oM tu;clear a hd T P;go_upto_region 7 with (fail);rw[<- hW];clear p0 p1 hW;obtain⟨x1,X⟩:=af (aP d.nm.data.toList);have K1:=qh (X▸jE d.nm W E);rw[X] at l;clear X;cases x1
  case false =>
   have m:=qh (show R=5 by rw[l.o];simp);go_wp2_with (go_at_call 23;(with_reducible refine K1.o.mono ?_);rintro O I ⟨rfl,rfl⟩);go_ret;exact⟨aj m.o.symm,n⟩
  have l:=qh (l.o.trans (if_neg (by decide)));have hl:=S.get underlying204 (Yk W) E;rw[HM.o.2.2 d.nm] at hl;obtain⟨x2,av⟩:=af ((L.take k).any (λ p=>decide (p.nm=d.nm)));rw[av] at hl l;clear av;cases x2
  case true =>
   have m:=qh (l.o.trans (if_pos rfl));go_wp2_with (go_at_call 23;(with_reducible refine K1.o.mono ?_);rintro O I ⟨rfl,rfl⟩);go_ret;exact⟨aj m.o.symm,n⟩
  have l:=qh (l.o.trans (if_neg (by decide)));obtain⟨x3,F⟩:=af (aW d.os.length 1 40);have K3:=qh (F▸jk d.os.length 1 40 W);rw[F] at l;have a9:=qh F;clear F;cases x3
  case true =>
   have m:=qh (l.o.trans (if_pos rfl));go_wp2_with (first
    | (go_at_call 23;(with_reducible refine K1.o.mono ?_);rintro O I ⟨rfl,rfl⟩)
    | (go_at_call 30;(with_reducible refine K3.o.mono ?_);rintro O I ⟨rfl,rfl⟩))
   go_ret;exact⟨aj m.o.symm,n⟩
  have l:=qh (l.o.trans (if_neg (by decide)));have bi:=rZ a9.o;have ac:=@run_makeMap lM;go_upto_region 15 with (first
   | (go_at_call 23;(with_reducible refine K1.o.mono ?_);rintro O I ⟨rfl,rfl⟩)
   | (go_at_call 30;(with_reducible refine K3.o.mono ?_);rintro O I ⟨rfl,rfl⟩)
   | (at_mapUpdate;refine iT rfl _ _ _ 204 4 rfl underlying204 rfl S a0 rfl rfl E ?_;intro z V D;have Z:=BW.grown D (λ e=>by injection e;omega);have u:=n.grown D n.size (λ g hg=>by cases hg;exact bB _)))
  have t:=u.size;have be:=qh (aO.alloc V (.map #[] 0));have bd:=qh (jR.made z);have bh:=u.trans ((az z (.map #[] 0)).mono t);have q1:z.cell? ⟨wr.heap.size,1,none⟩=some (bp A d.os.length c):=Z.cell 1;have bf:=Z.lt;have J:=V.lt;have al:∀ {w6:World},DD z w6->Below B0 wr w6:=λ h=>((oM.mono (bt y hs)).grown D (bt y n.size) (λ g hg=>by cases hg;exact y)).trans (h.mono (bt y t));clear ac hl q0 K1 K3 S BW V D;go_wp2;clear q1 Z;go_loopw [56] (λ i w6=>∃ j:Nat,i = bm bn j/\j<=d.os.length/\Hid (qp nl [] d.os=qp nl (d.os.take j) (d.os.drop j))/\Hid (jR w6 z.heap.size ((d.os.take j).map kN.code))/\DD z w6) (λ i _=>42 - (intOf i).toNat)
  case atStart=>exact⟨0,rfl,bx _,qh rfl,bd,az z _⟩
  case round =>
   obtain⟨j,rfl,hj,b,HC,q⟩:=hrel;have OX:=u.trans (q.mono t);have am:=q.size;by_cases hjl:j<d.os.length
   case neg =>
    obtain rfl:j=d.os.length:=by omega
    have b:=qh (show qp nl [] d.os=0 from b.o.trans (by rw[bA];rfl));have m:=qh (l.o.trans (if_neg (λ h=>h b.o)));have a3:=qh (show aO wr w.heap.size ((d.nm,br true) :: kv) from (be.o.same (by rw[Below.heap_alloc z _ _ J])).below q J);go_wp2;go_roundw
    case rel=>exact⟨k+1,_,by go_num,aV.o,m,qh ⟨a3.o,aw.o⟩,OX⟩
    case measure =>
     have:=aV.o;simp[intOf];omega
   have b:=qh (b.o.trans (Wl hjl));have HK:=qh (show (d.os.take (j+1)).map kN.code=(d.os.take j).map kN.code ++ [d.os[j].code] by rw[bz hjl,List.map_append];rfl);obtain⟨ao,ci,rfl,T,⟨A2,c2,rfl,oO⟩,a⟩:=aF.at_ (aF.keep (λ _ _ h=>h.keep (al q)) a6.o (al q)) hjl;obtain⟨o,ho⟩:=af (d.os[j]);rw[ho] at a oO b HK;have p0:wr.cell? (ao.add (j*4))=some (bm bn o.code):=a 0 _ rfl;have p1:wr.cell? ⟨(ao.add (j*4)).block,(ao.add (j*4)).off+1,none⟩=some (bp A2 o.ph.length c2):=a 1 _ rfl;have p2:wr.cell? ⟨(ao.add (j*4)).block,(ao.add (j*4)).off+2,none⟩=some (br o.al):=a 2 _ rfl;have p3:wr.cell? ⟨(ao.add (j*4)).block,(ao.add (j*4)).off+3,none⟩=some (br o.la):=a 3 _ rfl;obtain⟨W2,ae,qf,aE⟩:=box wr 95 #[bm bn o.code,bp A2 o.ph.length c2,br o.al,br o.la];have r0:=aE.cell 0;have M:=q.trans (qf.mono am);have G:=u.trans (M.mono t);have bj:=HC.o.lt;have ay:=HC.o.below qf;have D6:=qh hjl;have ba:((d.os.take j).map kN.code).length<maxLen:=by rw[List.length_map,bN];unfold maxLen;omega
   obtain⟨x4,C⟩:=af (aW o.code 1 999);have K4:=qh (C▸jk o.code 1 999 W2);rw[C] at b;have aZ:=qh C;clear a ho T C;go_upto_region 18 with (fail);rw[<- ae];clear p0 p1 p2 p3 ae;cases x4
   case true =>
    have b:=qh (b.o.trans (if_pos rfl));have m:=qh (show R=1 from l.o.trans (by rw[b.o];rfl));go_wp2_with (go_at_call 30;(with_reducible refine K4.o.mono ?_);rintro O I ⟨rfl,rfl⟩);go_ret;exact⟨aj m.o.symm,G⟩
   have b:=qh (b.o.trans (if_neg (by decide)));have ab:=rZ aZ.o;have U:=ay.get ab;rw[Wn] at U;obtain⟨x5,aD⟩:=af ((d.os.take j).any (λ p=>decide (p.code=o.code)));rw[aD] at U b;have a2:=qh ab;clear aD ab;cases x5
   case true =>
    have b:=qh (b.o.trans (if_pos rfl));have m:=qh (show R=6 from l.o.trans (by rw[b.o];rfl));go_wp2_with (go_at_call 30;(with_reducible refine K4.o.mono ?_);rintro O I ⟨rfl,rfl⟩);go_ret;exact⟨aj m.o.symm,G⟩
   have b:=qh (b.o.trans (if_neg (by decide)));have Jc:=qh oO;have ax:=qh (show B0<=wr.heap.size by have:=OX.size;omega);clear oO;go_upto_region 23 with (first
    | (go_at_call 30;(with_reducible refine K4.o.mono ?_);rintro O I ⟨rfl,rfl⟩)
    | (at_mapUpdate;refine zC rfl _ _ _ rfl rfl ay ba rfl rfl a2.o ?_;intro w7 aq vC;have a1:=aE.grown vC (λ e=>by injection e;omega);have aa:=M.grown vC (bt am qf.size) (λ g hg=>by cases hg;exact bB _);have an:=(qf.mono ax.o).grown vC (bt ax.o qf.size) (λ g hg=>by cases hg;exact bt y t)))
   have q1:=a1.cell 1;have Rz:=u.trans (aa.mono t);have KP:=qh (ak.o w7 o.ph A2 c2 B0 Rz (Jc.o.keep an) (bt y Rz.size));obtain⟨r,hr⟩:=af (pq (λ _=>(0,0)) nl false o.ph);rw[hr] at KP b;have ap:=qh aq;rw[<- HK.o] at ap;clear hr U r0 aq vC an;by_cases h0:r=0
   case' pos =>
    have b:=qh (b.o.trans (if_neg (λ h=>h h0)));obtain⟨g0,a7⟩:=iP h0
   case' neg =>
    have b:=qh (b.o.trans (if_pos h0));have m:=qh (show R=r from l.o.trans (by rw[b.o,if_pos h0]));obtain⟨g0,a7⟩:=fH h0
   all_goals clear h0
   all_goals go_wp2_with (go_at_call 112;(with_reducible refine KP.o.mono ?_);rintro e8 w8 ⟨rfl,Q⟩)
   .go_ret;exact⟨aj m.o.symm,Rz.trans (Q.mono Rz.size)⟩
   go_roundw
   case rel=>exact⟨j+1,by go_num,D6.o,b,qh (ap.o.below Q),aa.trans (Q.mono aa.size)⟩
   case measure =>
    have:=D6.o;simp[intOf];omega
attribute [local go_sem ↓] ld_item st_item ld_node st_node ld_ans st_ans ld_part st_part ld_rule st_rule ld_form st_form
theorem aT.itm {w:World} {B0 a k l e:Nat} {x:jS} {f:aI} {N:List au} {K:aY} (h:aT w B0 a k l e x f N K) {i:Nat} (d:i<N.length) :
  ∃ ad A1 c1 A2 c2 A3 c3 A4 c4 A5 c5 B1 b1 B2 b2 B3 b3 W cs,w.cell? ⟨a,5,none⟩=some (bp (some ad) N.length x.cn)/\(wL 59 (bq (some (ad.add (i*23))))).run lM w = .ok (.agg cs.toArray) w/\(Hr 59 (bq (some ⟨w.heap.size,0,none⟩)) (.agg cs.toArray)).run lM (w.alloc (.cells #[bm bn 0,bo ⟨#[]⟩,bp none 0 0,bp none 0 0,bp none 0 0,br false,bp none 0 0,bo ⟨#[]⟩,bm bn 0,bm bn 0,bm bn 0,bm bn 0,bo ⟨#[]⟩,bp none 0 0,br false,bp none 0 0,br false,bp none 0 0,bp none 0 0] 59 (0,0))) = .ok () W/\DD w W/\ah W w.heap.size 59 cs.toArray/\[bm bn N[i].it.k,bo N[i].it.nm,bp A1 N[i].it.iff.length c1,bp A2 N[i].it.ph.length c2,bp A3 N[i].it.items.length c3,br N[i].it.sh,bp A4 N[i].it.cnt.length c4,bo N[i].it.over,bm bn N[i].it.ans.k,bm bn N[i].it.ans.lo,bm bn N[i].it.ans.hi,bm bn N[i].it.ans.pl,bo N[i].it.ans.ls,bp B1 N[i].it.ans.only.length b1,br N[i].it.ans.sh,bp B2 N[i].it.ans.rs.length b2,br N[i].it.ans.need,bp B3 N[i].it.ans.ch.length b3,bp A5 N[i].it.cmp.length c5]=cs/\dW w B0 N[i].it cs:=by
 obtain⟨ad,A1,c1,A2,c2,A3,c3,A4,c4,A5,c5,B1,b1,B2,b2,B3,b3,A,c,n,g,hit,-,m⟩:=h.pG d;exact⟨ad,A1,c1,A2,c2,A3,c3,A4,c4,A5,c5,B1,b1,B2,b2,B3,b3,_,_,g,yX rfl (λ j u b=>m j u (by have:=(List.getElem?_eq_some_iff.1 b).1;show ([bm bn N[i].it.k,bo N[i].it.nm,bp A1 N[i].it.iff.length c1,bp A2 N[i].it.ph.length c2,bp A3 N[i].it.items.length c3,br N[i].it.sh,bp A4 N[i].it.cnt.length c4,bo N[i].it.over,bm bn N[i].it.ans.k,bm bn N[i].it.ans.lo,bm bn N[i].it.ans.hi,bm bn N[i].it.ans.pl,bo N[i].it.ans.ls,bp B1 N[i].it.ans.only.length b1,br N[i].it.ans.sh,bp B2 N[i].it.ans.rs.length b2,br N[i].it.ans.need,bp B3 N[i].it.ans.ch.length b3,bp A5 N[i].it.cmp.length c5] ++ [bm bn N[i].par,bm bn N[i].jA,bm bn N[i].dm,bp A N[i].lo.length c])[j]?=some u;rw[List.getElem?_append_left this];exact b)),Ns rfl (by simp[bE]),az w _,ah.new w _ _,rfl,hit⟩
theorem aT.ndb {w:World} {B0 b k l g:Nat} {x:jS} {f:aI} {N:List au} {K:aY} (h:aT w B0 b k l g x f N K) {i:Nat} (e:i<N.length) :
  ∃ ad A1 c1 A2 c2 A3 c3 A4 c4 A5 c5 B1 b1 B2 b2 B3 b3 A c W cs,w.cell? ⟨b,5,none⟩=some (bp (some ad) N.length x.cn)/\(wL 110 (bq (some (ad.add (i*23))))).run lM w = .ok (.agg cs.toArray) w/\(Hr 110 (bq (some ⟨w.heap.size,0,none⟩)) (.agg cs.toArray)).run lM (w.alloc (.cells #[bm bn 0,bo ⟨#[]⟩,bp none 0 0,bp none 0 0,bp none 0 0,br false,bp none 0 0,bo ⟨#[]⟩,bm bn 0,bm bn 0,bm bn 0,bm bn 0,bo ⟨#[]⟩,bp none 0 0,br false,bp none 0 0,br false,bp none 0 0,bp none 0 0,bm bn 0,bm bn 0,bm bn 0,bp none 0 0] 110 (0,0))) = .ok () W/\DD w W/\ah W w.heap.size 110 cs.toArray/\[bm bn N[i].it.k,bo N[i].it.nm,bp A1 N[i].it.iff.length c1,bp A2 N[i].it.ph.length c2,bp A3 N[i].it.items.length c3,br N[i].it.sh,bp A4 N[i].it.cnt.length c4,bo N[i].it.over,bm bn N[i].it.ans.k,bm bn N[i].it.ans.lo,bm bn N[i].it.ans.hi,bm bn N[i].it.ans.pl,bo N[i].it.ans.ls,bp B1 N[i].it.ans.only.length b1,br N[i].it.ans.sh,bp B2 N[i].it.ans.rs.length b2,br N[i].it.ans.need,bp B3 N[i].it.ans.ch.length b3,bp A5 N[i].it.cmp.length c5,bm bn N[i].par,bm bn N[i].jA,bm bn N[i].dm,bp A N[i].lo.length c]=cs/\dW w B0 N[i].it ([bm bn N[i].it.k,bo N[i].it.nm,bp A1 N[i].it.iff.length c1,bp A2 N[i].it.ph.length c2,bp A3 N[i].it.items.length c3,br N[i].it.sh,bp A4 N[i].it.cnt.length c4,bo N[i].it.over,bm bn N[i].it.ans.k,bm bn N[i].it.ans.lo,bm bn N[i].it.ans.hi,bm bn N[i].it.ans.pl,bo N[i].it.ans.ls,bp B1 N[i].it.ans.only.length b1,br N[i].it.ans.sh,bp B2 N[i].it.ans.rs.length b2,br N[i].it.ans.need,bp B3 N[i].it.ans.ch.length b3,bp A5 N[i].it.cmp.length c5])/\(kz w w.heap.size A c N[i].lo/\N[i].lo.length<=1000)/\w.cell? ((ad.add (i*23)).add 22)=some (bp A N[i].lo.length c):=by
 obtain⟨ad,A1,c1,A2,c2,A3,c3,A4,c4,A5,c5,B1,b1,B2,b2,B3,b3,A,c,m,j,hit,a,d⟩:=h.pG e;exact⟨ad,A1,c1,A2,c2,A3,c3,A4,c4,A5,c5,B1,b1,B2,b2,B3,b3,A,c,_,_,j,ES rfl d,Ny rfl (by simp[bE]),az w _,ah.new w _ _,rfl,hit,a,d 22 _ rfl⟩
theorem e8 {w:World} {a:Addr} {v0 v1 v2 v3 b v5 v6 v7:Value} (h:∀ j u,[v0,v1,v2,v3,b,v5,v6,v7][j]?=some u->w.cell? (a.add j)=some u) :
  w.cell? a=some v0/\w.cell? ⟨a.block,a.off+1,none⟩=some v1/\w.cell? ⟨a.block,a.off+2,none⟩=some v2/\w.cell? ⟨a.block,a.off+3,none⟩=some v3/\w.cell? ⟨a.block,a.off+4,none⟩=some b/\w.cell? ⟨a.block,a.off+5,none⟩=some v5/\w.cell? ⟨a.block,a.off+6,none⟩=some v6/\w.cell? ⟨a.block,a.off+7,none⟩=some v7:=
 ⟨h 0 _ rfl,h 1 _ rfl,h 2 _ rfl,h 3 _ rfl,h 4 _ rfl,h 5 _ rfl,h 6 _ rfl,h 7 _ rfl⟩
theorem b8 {w:World} {g:Nat} {T:TypeId} {v0 v1 v2 v3 a v5 v6 v7:Value} (h:ah w g T #[v0,v1,v2,v3,a,v5,v6,v7]) :
  w.cell? ⟨g,0,none⟩=some v0/\w.cell? ⟨g,1,none⟩=some v1/\w.cell? ⟨g,2,none⟩=some v2/\w.cell? ⟨g,3,none⟩=some v3/\w.cell? ⟨g,4,none⟩=some a/\w.cell? ⟨g,5,none⟩=some v5/\w.cell? ⟨g,6,none⟩=some v6/\w.cell? ⟨g,7,none⟩=some v7:=
 ⟨h.cell 0,h.cell 1,h.cell 2,h.cell 3,h.cell 4,h.cell 5,h.cell 6,h.cell 7⟩
theorem af6 {N:List au} {s:ByteArray} (h:¬ uU N s<0):∃ i:Nat,uU N s=i/\i<N.length:=by
 unfold uU at h ⊢;split at h
 .exact absurd h (by decide)
 .rename_i a;rw[if_neg a];exact wJ h
theorem Wp {w:World} {B0 gb m1 m2 m3:Nat} {x:jS} {f:aI} {N:List au} {K:aY} (h:aT w B0 gb m1 m2 m3 x f N K) {cg:Nat} (av:w.cell? ⟨cg,0,none⟩=some (bq (some ⟨gb,0,none⟩))) (bc:cg<w.heap.size) (hN:gW N) {n:Nat} (hn:n<N.length) (hp:∀ e∈N[n].it.cnt,e.parts<=1000000) (ab:Tab w) (a3:Mx w) :
  CS 118 #[bq (some ⟨cg,0,none⟩),bm bn n] w (bm bn (Iy N f.lists K n)):=by
 have hB:=h.le;have bf:=h.cap;have tq:=h.nodes.1;obtain⟨ad,A1,c1,A2,c2,A3,c3,A4,c4,A5,c5,B1,b1,B2,b2,B3,b3,W,cs,T,H,ar,t,BW,F,hit⟩:=h.itm hn;have D:aF bC 8 w B0 A4 N[n].it.cnt:=by subst F;cases hit;assumption
 have aZ:N[n].it.over.size<=maxLen:=by subst F;cases hit;assumption
 obtain⟨d,hd⟩:=af (N[n].it);rw[hd] at D aZ F hp;have q6:W.cell? ⟨w.heap.size,6,none⟩=some (bp A4 d.cnt.length c4):=by rw[BW.cell 6];subst F;rfl
 have q7:W.cell? ⟨w.heap.size,7,none⟩=some (bo d.over):=by rw[BW.cell 7];subst F;rfl
 have C:=D.1;unfold maxLen at C;have HL:=qh (D.keep (λ _ _ h=>h.keep (t.mono hB)) (t.mono hB));have HP:=qh hp;have kF:=qh (show ∀ w',DD W w'->aT w' B0 gb m1 m2 m3 x f N K/\w'.cell? ⟨cg,0,none⟩=some (bq (some ⟨gb,0,none⟩))/\cg<w'.heap.size/\w'.cell? ⟨gb,5,none⟩=some (bp (some ad) N.length x.cn)/\w'.cell? ⟨w.heap.size,7,none⟩=some (bo d.over)/\Tab w'/\Mx w'/\DD w w' from λ w' Z=>by
  have j:=t.trans (Z.mono t.size);exact⟨h.keep j,Below.cell_of j av,bw bc j.size,Below.cell_of j T,Below.cell_of Z q7,aB ab j,a3.below j,j⟩)
 have KF:=qh (show ∀ w' e cs,DD W w'->bC w' B0 e cs->e.parts<=1000000->Calls lM 120 #[bq (some ⟨cg,0,none⟩),.agg cs.toArray,bm bn n,bp none 0 0] w' λ en ba=>en = bs (.tuple #[bm bn (bV N K n [] e).1,bm bn (bV N K n [] e).2])/\DD w' ba from λ w' e cs hq hx a5=>by
  obtain⟨b1,b2,b3,-,-,b6,b7,b8⟩:=kF.o w' hq;exact wU b1 b2 b3 hN (more:=[]) ⟨by decide,[],Reads.none_,λ i hi=>by cases hi⟩ (.inl ⟨rfl,rfl,rfl⟩) hx (bt hB b8.size) hn a5 b6 b7)
 have HN:=qh (bv hN hd);obtain⟨R,hR⟩:=af (Iy N f.lists K n);have E:=qh (show R=if dS (bV N K n []) 2 d.cnt≠0 then dS (bV N K n []) 2 d.cnt else SN N f.lists n by rw[<- hR];unfold Iy;rw[iD hn,hd]);rw[hR];obtain⟨FF,a0⟩:=af (bV N K n []);rw[a0] at KF E;obtain⟨O,hO⟩:=af (SN N f.lists n);rw[hO] at E;have o:=qh (show O=if d.over=⟨#[]⟩ then 0 else if uU N d.over<0 then 5 else if iW N (uU N d.over) n=false then 14 else if (jY N (uU N d.over)).it.ans.k≠5 then 8 else
  if N[n].lo.length<(jY N (uU N d.over)).lo.length\/(jY N (uU N d.over)).lo≠N[n].lo.take (jY N (uU N d.over)).lo.length then 5 else
  if 20<(match lX f.lists (jY N (uU N d.over)).it.ans.ls with | some l=>l.os.length | none=>0) then 2 else 0 by rw[<- hO];unfold SN;rw[iD hn,hd];rfl)
 have HK:=qh av;have bk:=h.blk.lt;clear h D hp ab a3 hR a0 hO F hit BW hN hd;go_enter func118,ntmps118;go_upto_region 2 with (fail);clear H ar T av;go_wp2;clear q6 q7;go_loopw [26] (λ i wr=>∃ k:Nat,i = bm bn k/\k<=d.cnt.length/\Hid (dS FF 2 d.cnt=dS FF 2 (d.cnt.drop k))/\DD W wr) (λ i _=>d.cnt.length+1 - (intOf i).toNat)
 case atStart=>exact⟨0,rfl,bx _,qh rfl,Below.refl _ _⟩
 case round =>
  obtain⟨k,rfl,hk,HD,Z⟩:=hrel;have hs:=Z.size;by_cases hlt:k<d.cnt.length
  .have HD:=qh (HD.o.trans (Fv hlt));obtain⟨ae,ci,rfl,a7,al,P⟩:=aF.at_ (aF.keep (λ _ _ h=>h.keep (Z.mono (bt hB t.size))) HL.o (Z.mono (bt hB t.size))) hlt;obtain⟨a,ha⟩:=af (d.cnt[k]);have zk:=qh (HP.o a (ha▸bO hlt));rw[ha] at al HD;have qV:=qh al;have aV:=qh hlt;obtain⟨-,-,-,-,-,-,-⟩:=al;rename_i A3 c3 A4 c4 bj;obtain⟨f0,f1,f2,f3,f4,f5,f6,f7⟩:=e8 P;obtain⟨W3,a1,B,B3⟩:=box wr 67 (Ag a A3 c3 A4 a.ar.length c4);have M:=Z.trans (B.mono hs);clear P ha a7;go_upto_region 5 with (fail);rw[<- a1];clear a1 f0 f1 f2 f3 f4 f5 f6 f7;obtain⟨f0,f1,f2,f3,f4,f5,f6,f7⟩:=b8 B3;have KA:=qh (show Calls lM 120 #[bq (some ⟨cg,0,none⟩),.agg (Ag a A3 c3 A4 a.ar.length c4),bm bn n,bp none 0 0] W3 _ from KF.o W3 a _ M (qV.o.keep (B.mono (bt hB (bt t.size hs)))) zk.o);obtain⟨r,hr⟩:=af (FF a);rw[hr] at KA HD;clear hr;by_cases h0:r.2=0
   case' neg =>
    have p:=qh (show R=r.2 from E.o.trans (by rw[HD.o.trans (if_pos h0)];exact if_pos h0));obtain⟨g0,an⟩:=fH h0;clear h0
   case' pos =>
    have aL:=qh (HD.o.trans (if_neg (λ h=>h h0)));obtain⟨g0,an⟩:=iP h0;clear h0;by_cases h7:r.1=2
    case' neg =>
     have p:=qh (show R=8 from E.o.trans (by rw[aL.o.trans (if_pos h7)];rfl));obtain⟨g7,bb⟩:=fH h7;clear h7
    case' pos =>
     have p:=qh (aL.o.trans (if_neg (λ h=>h h7)));obtain⟨g7,bb⟩:=iP h7;clear h7
   all_goals
    go_wp2_with (go_at_call 120;(with_reducible refine KA.o.mono ?_);rintro e1 w4 ⟨rfl,g⟩;have g:=M.trans (g.mono M.size);clear f0 f1 f2 f3 f4 f5 f6 f7)
    first
     | (go_ret
        exact⟨aj p.o.symm,t.trans (g.mono t.size)⟩)
     | (go_roundw
        case rel=>exact⟨k+1,by go_num,aV.o,p,g⟩
        case measure =>
         have:=aV.o;simp[intOf];omega)
  obtain rfl:k=d.cnt.length:=by omega
  have E:=qh (show R=O from E.o.trans (by rw[HD.o,bA];rfl));obtain⟨b1,b2,b3,U,b5,-,-,b8⟩:=kF.o wr Z;by_cases ho:d.over=⟨#[]⟩
  .have p:=qh (show R=0 from E.o.trans (o.o.trans (if_pos ho)));obtain⟨g0,an⟩:=ah2 ho;clear ho b1;go_wp2;go_ret;exact⟨aj p.o.symm,b8⟩
  have o:=qh (o.o.trans (if_neg ho));obtain⟨g0,an⟩:=ah3 ho;obtain⟨q,hq⟩:=af (uU N d.over);have HQ:=qh hq;rw[hq] at o;have KQ:=qh (Later.call (W:=wr) (f:=173) (args:=#[bq (some ⟨gb,0,none⟩),bo d.over]) (v:=bm bn q) λ w' j=>(JI (b1.keep j) d.over aZ).mono λ _ _ ⟨he,hw⟩=>⟨by rw[he,HQ.o],hw▸Below.refl _ _⟩);have r1:=Later.cell b2;have r2:=Later.cell b5;clear ho hq b1 U;go_upto_region 13 with (fail);refine aU (by kernel_rfl) (by kernel_rfl) ?_
  repeat (go_big_quiet_step (first | (with_reducible exact KQ.o _)))
  refine wpQuiet_nil ?_;intro W9 z;have gK:=iQ z;clear z KQ r1 r2 b2 b5;have gK:=Z.trans (gK.mono hs);obtain⟨b1,b2,b3,U,b5,-,-,b8⟩:=kF.o W9 gK;by_cases hq0:q<0
  .have p:=qh (E.o.trans (o.o.trans (if_pos hq0)));clear b1;go_wp2;go_ret;exact⟨aj p.o.symm,b8⟩
  have o:=qh (o.o.trans (if_neg hq0));obtain⟨m,hm,V⟩:=af6 (HQ.o▸hq0);obtain rfl:q=(m:Int):=HQ.o.symm.trans hm;obtain⟨ae,A1,c1,A2,c2,A3,c3,A4,c4,A5,c5,B1,b1,B2,b2,B3,b3,A,c,W3,ds,T,H,ar,B,B3,S,hit,aD,-⟩:=b1.ndb V;obtain rfl:ad=ae:=by rw[U] at T;injection T with h;injection h with h;exact Option.some.inj h
  obtain⟨y,hy⟩:=af (N[m]);have ay:=gK.trans (B.mono gK.size);rw[iD V,hy] at o;rw[hy] at S hit aD;have z8:W3.cell? ⟨W9.heap.size,8,none⟩=some (bm bn y.it.ans.k):=by rw[B3.cell 8];subst S;rfl
  have aa:W3.cell? ⟨W9.heap.size,12,none⟩=some (bo y.it.ans.ls):=by rw[B3.cell 12];subst S;rfl
  have G:W3.cell? ⟨W9.heap.size,22,none⟩=some (bp A y.lo.length c):=by rw[B3.cell 22];subst S;rfl
  have a6:y.it.ans.ls.size<=maxLen:=by cases hit;exact qA.l5 (by assumption)
  have ag:=qh aD;have bi:=qh V;clear S hit hy hm aD B3 hq0 T;go_upto_region 17 with (fail);clear H ar b1 b2 U b5 b8;obtain⟨b1,b2,b3,U,b5,-,-,b8⟩:=kF.o W3 ay;obtain⟨x1,ao⟩:=af (iW N m n);have KA:=qh (ao▸wK b1 HN.o.1 m n V hn);rw[ao] at o;clear ao b1;cases x1
  case false =>
   have p:=qh (E.o.trans (o.o.trans (if_pos rfl)));go_wp2_with (go_at_call 174;(with_reducible refine KA.o.mono ?_);rintro e1 w4 ⟨rfl,g⟩);go_ret;exact⟨aj p.o.symm,b8.trans (g.mono b8.size)⟩
  have o:=qh (o.o.trans (if_neg (by decide)));go_upto_region 19 with (go_at_call 174;(with_reducible refine KA.o.mono ?_);rintro e1 w4 ⟨rfl,g⟩);have z8:=Below.cell_of g z8;have aa:=Below.cell_of g aa;have G:=Below.cell_of g G;have am:=ay.trans (g.mono ay.size);clear b2 b3 U b5 b8;obtain⟨b1,b2,b3,U,b5,-,-,b8⟩:=kF.o w4 am;by_cases h5:y.it.ans.k=5
  case neg =>
   have p:=qh (E.o.trans (o.o.trans (if_pos h5)));obtain⟨g5,Xg⟩:=fH h5;clear b1;go_wp2;go_ret;exact⟨aj p.o.symm,b8⟩
  have o:=qh (o.o.trans (if_neg (λ h=>h h5)));obtain⟨g5,Xg⟩:=iP h5;have bh:=qh b1;obtain⟨ae,-,-,-,-,-,-,-,-,-,-,-,-,-,-,-,-,A9,c9,-,-,T,-,-,-,-,-,-,ax,Q⟩:=b1.ndb hn;obtain rfl:ad=ae:=by rw[U] at T;injection T with h;injection h with h;exact Option.some.inj h
  have a2:=ag.o.2;have YH:=ax.2;have X:=qh ax;obtain⟨u,a4⟩:=af (y.lo);rw[a4] at o ag G a2;have aq:=qh (show kz w4 w4.heap.size A c u from (ag.o.1.keep (B.trans (g.mono B.size))).up (bt B.size g.size));obtain⟨J,aR⟩:=af (N[n].lo);rw[aR] at o X Q YH;have Q:w4.cell? ⟨(ad.add (n*23)).block,(ad.add (n*23)).off+22,none⟩=some (bp A9 J.length c9):=Q;clear T h5 ax aR b1 a4;have r1:=Later.cell b2;have r2:=Later.cell U;have r3:=Later.cell G;have r4:=Later.cell Q;by_cases C:J.length<u.length
  .have p:=qh (E.o.trans (o.o.trans (if_pos (.inl C))));have Y:(J.length:Int)<u.length:=by omega
   have H:decide ((J.length:Int)<u.length)=true:=decide_eq_true Y;have aM:decide (J.length<u.length)=true:=decide_eq_true C;go_upto_region 21 with (fail);refine aU (by kernel_rfl) (by kernel_rfl) ?_
   repeat (go_big_quiet_step (fail))
   refine wpQuiet_nil ?_;intro W8 z;have L:=iQ z;clear z r1 r2 r3 r4;go_wp2;go_ret;exact⟨aj p.o.symm,b8.trans (L.mono b8.size)⟩
  have Y:¬ (J.length:Int)<u.length:=by omega
  have H:decide ((J.length:Int)<u.length)=false:=decide_eq_false Y;have aM:decide (J.length<u.length)=false:=decide_eq_false C;obtain⟨b,aE⟩:=af (decide (u=J.take u.length));have KE:=qh (Later.call (W:=w4) (f:=16) (args:=#[bp A u.length c,bp A9 u.length c9]) (v:=br b) λ w' j=>by
   have ac:(J.take u.length).length=u.length:=by rw[bN];omega
   have h:=sD A A9 c c9 w4.heap.size w4.heap.size u (J.take u.length) w' aq.o.2.2.1 (by rw[ac];exact aq.o.2.2.1) (aq.o.1.below j) (dA.take (X.o.1.1.below j) _);rw[ac,aE] at h;exact h)
  have bd:u.length<=c9:=by have:=X.o.1.2.1;omega
  have aw:A9=none->u = []/\J = []:=λ e=>by
   rcases Nat.eq_zero_or_pos J.length with h | h
   .exact⟨bP (by omega),bP h⟩
   .obtain⟨bl,e',-⟩:=X.o.1.1.2 h;rw[e] at e';cases e'
  have ak:=qh aE;have Qz:=qh C;clear aE C;rcases A9 with _ | a9
  case' none =>
   obtain⟨rfl,rfl⟩:=aw rfl;clear aw Y H aM bd a2 YH;simp only[List.length_nil] at KE r3 r4 G Q
  case' some =>
   clear aw
  all_goals
   go_upto_region 21 with (fail);refine aU (by kernel_rfl) (by kernel_rfl) ?_
   repeat (go_big_quiet_step (first | (with_reducible exact KE.o _)))
   refine wpQuiet_nil ?_;intro W8 z;have L:=iQ z;clear z r1 r2 r3 r4 KE;cases b
   case false =>
    have p:=qh (E.o.trans (o.o.trans (if_pos (.inr (of_decide_eq_false ak.o)))))
    first
     | exact absurd ak.o (by decide)
     | (go_wp2
        go_ret;exact⟨aj p.o.symm,b8.trans (L.mono b8.size)⟩)
   have o:=qh (o.o.trans (if_neg (λ h=>h.elim Qz.o (λ h=>h (of_decide_eq_true ak.o)))));have a8:=am.trans (L.mono am.size);have aa:=Below.cell_of L aa;obtain⟨d1,d2,d3,d4,d5,-,-,d8⟩:=kF.o W8 a8;have d6:W8.cell? ⟨gb,7,none⟩=some (.map (some m2)):=d1.blk.cell 7;obtain⟨kv,hm,I⟩:=d1.ls;have hl:=(show aO W8.drew m2 kv from hm.same rfl).get underlying113 (Yg W8.drew) a6;have I:=I y.it.ans.ls;obtain⟨n9,ap⟩:=af ((match lX f.lists y.it.ans.ls with | some l=>l.os.length | none=>0));have hV:∃ s A' c',((di kv y.it.ans.ls).getD (.agg #[.string ⟨#[]⟩,.slice none 0 0])) = .agg #[.string s,.slice A' n9 c']:=by
    rw[<- ap];split at I
    .rename_i e;rw[I,e];exact⟨_,_,_,rfl⟩
    .rename_i l e;obtain⟨A',c',e',-⟩:=I;rw[e',e];exact⟨_,_,_,rfl⟩
   obtain⟨s9,A',c',hV⟩:=hV;rw[hV] at hl;rw[ap] at o;have bg:∀ W:World,(Instr.field 92 (.agg #[bo s9,bp A' n9 c']) 1).run lM W = .ok (bp A' n9 c') W:=λ _=>by kernel_rfl
   clear hV ap I hm d1 d3 d4 d5 G z8;by_cases h20:20<n9
   case' pos =>
    have p:=qh (E.o.trans (o.o.trans (if_pos h20)));have be:(20:Int)<n9:=by omega
   case' neg =>
    have p:=qh (E.o.trans (o.o.trans (if_neg h20)));have be:¬ (20:Int)<n9:=by omega
   all_goals
    clear h20;go_upto_region 23 with (fail);go_region;go_wp2;go_ret;exact⟨aj p.o.symm,by first | exact d8 | exact d8.drew⟩
theorem TQ {w:World} {cs:List Value} (a:cs.length=10) (b:∀ v∈cs,v.oneCell'=true):(Hr 57 (bq (some ⟨w.heap.size,0,none⟩)) (.agg cs.toArray)).run lM (w.alloc (.cells #[bm bn 0,bm bn 0,bm bn 0,bm bn 0,bo ⟨#[]⟩,bp none 0 0,br false,bp none 0 0,br false,bp none 0 0] 57 (0,0))) = .ok () (w.alloc (.cells cs.toArray 57 (0,0))):=
 wP (by rw[show cs.toArray.size=10 from a];kernel_rfl) (show 10=cs.toArray.size from a.symm) (by rw[<- Array.all_toList];exact bR.2 b)
theorem Gl {w:World} {ad:Addr} {cs:List Value} (b:cs.length=10) (a:∀ j u,cs[j]?=some u->w.cell? (ad.add j)=some u):(wL 144 (bq (some ad))).run lM w = .ok (.agg cs.toArray) w:=
 wO underlying144 rfl (by rw[b];kernel_rfl) a
theorem Gm {w:World} {cs:List Value} (a:cs.length=10) (b:∀ v∈cs,v.oneCell'=true):(Hr 144 (bq (some ⟨w.heap.size,0,none⟩)) (.agg cs.toArray)).run lM (w.alloc (.cells #[bm bn 0,bm bn 0,bo ⟨#[]⟩,bm bn 0,bm bn 0,bo ⟨#[]⟩,bp none 0 0,bp none 0 0,br false,bp none 0 0] 144 (0,0))) = .ok () (w.alloc (.cells cs.toArray 144 (0,0))):=
 wP (by rw[show cs.toArray.size=10 from a];kernel_rfl) (show 10=cs.toArray.size from a.symm) (by rw[<- Array.all_toList];exact bR.2 b)
theorem aT.anX {w:World} {B0 d l m g:Nat} {x:jS} {f:aI} {N:List au} {K:aY} (h:aT w B0 d l m g x f N K) {i:Nat} (e:i<N.length) :
  ∃ ad B1 b1 B2 b2 B3 b3 W cs,w.cell? ⟨d,5,none⟩=some (bp (some ad) N.length x.cn)/\(wL 57 (bq (some ⟨(ad.add (i*23)).block,(ad.add (i*23)).off+8,none⟩))).run lM w = .ok (.agg cs.toArray) w/\(Hr 57 (bq (some ⟨w.heap.size,0,none⟩)) (.agg cs.toArray)).run lM (w.alloc (.cells #[bm bn 0,bm bn 0,bm bn 0,bm bn 0,bo ⟨#[]⟩,bp none 0 0,br false,bp none 0 0,br false,bp none 0 0] 57 (0,0))) = .ok () W/\DD w W/\ah W w.heap.size 57 cs.toArray/\[bm bn N[i].it.ans.k,bm bn N[i].it.ans.lo,bm bn N[i].it.ans.hi,bm bn N[i].it.ans.pl,bo N[i].it.ans.ls,bp B1 N[i].it.ans.only.length b1,br N[i].it.ans.sh,bp B2 N[i].it.ans.rs.length b2,br N[i].it.ans.need,bp B3 N[i].it.ans.ch.length b3]=cs/\qA w B0 N[i].it.ans B1 b1 B2 b2 B3 b3:=by
 obtain⟨ad,A1,c1,A2,c2,A3,c3,A4,c4,A5,c5,B1,b1,B2,b2,B3,b3,A,c,n,k,hit,-,b⟩:=h.pG e;refine⟨ad,B1,b1,B2,b2,B3,b3,_,_,k,wQ rfl (λ j u a=>?_),TQ rfl (by simp[bE]),az w _,ah.new w _ _,rfl,by cases hit;assumption⟩
 match j,a with
 | 0,a=>exact b 8 _ a
 | 1,a=>exact b 9 _ a
 | 2,a=>exact b 10 _ a
 | 3,a=>exact b 11 _ a
 | 4,a=>exact b 12 _ a
 | 5,a=>exact b 13 _ a
 | 6,a=>exact b 14 _ a
 | 7,a=>exact b 15 _ a
 | 8,a=>exact b 16 _ a
 | 9,a=>exact b 17 _ a
 | j+10,a=>simp at a
theorem OY {N:List au} {K:aY} {a:Nat} {n:Int} {l:List dY} {k:Nat} (h:k<l.length):oh N K a n (l.drop k)=if dS (bV N K n (cZ N K n)) 7 [l[k].must]≠0 then dS (bV N K n (cZ N K n)) 7 [l[k].must] else
  if pq (bV N K n (cZ N K n)) a true l[k].ph≠0 then pq (bV N K n (cZ N K n)) a true l[k].ph else oh N K a n (l.drop (k+1)):=by
 rw[bL h,oh]
theorem RD {w:World} {B0 gb m1 m2 m3:Nat} {x:jS} {f:aI} {N:List au} {K:aY} (h:aT w B0 gb m1 m2 m3 x f N K) {F:Nat} (M:w.cell? ⟨F,0,none⟩=some (bq (some ⟨gb,0,none⟩))) (a7:F<w.heap.size) (hN:gW N) {n:Nat} (hn:n<N.length) (ak:∀ e∈N[n].it.ans.only,e.parts<=1000000) (ab:∀ r∈N[n].it.ans.ch,r.must.parts<=1000000) (Y:Tab w) (ay:Mx w) :
  CS 119 #[bq (some ⟨F,0,none⟩),bm bn n] w (bm bn (xZ N K f.ag.length n)):=by
 have C:=h.le;have a9:=h.cap;have tq:=h.nodes.1;obtain⟨ad,B1,b1,B2,b2,B3,b3,W,cs,cX,a0,a1,al,BW,T,P⟩:=h.anX hn;obtain⟨d,hd⟩:=af (N[n].it);rw[hd] at P T ak ab;have q5:W.cell? ⟨w.heap.size,5,none⟩=some (bp B1 d.ans.only.length b1):=by rw[BW.cell 5];subst T;rfl
 have q9:W.cell? ⟨w.heap.size,9,none⟩=some (bp B3 d.ans.ch.length b3):=by rw[BW.cell 9];subst T;rfl
 have a5:=P.h3.1;unfold maxLen at a5;have HL:=qh (bv P.h1 (bv P.h3 P.l3));have kF:=qh (show ∀ w',DD w w'->aT w' B0 gb m1 m2 m3 x f N K/\w'.cell? ⟨F,0,none⟩=some (bq (some ⟨gb,0,none⟩))/\F<w'.heap.size/\Tab w'/\Mx w' from λ w' L =>
  ⟨h.keep L,Below.cell_of L M,bw a7 L.size,aB Y L,ay.below L⟩)
 have KB:=qh (show ∀ w' (l:List Ex) A c B (more:List bu) AM cm,DD w w'->aF bC 8 w' B A l->B<=w'.heap.size->(∀ e∈l,e.parts<=1000000)->eX w' w'.heap.size AM more->((AM=none/\cm=0/\more = [])\/(∃ m,more = [m]))->Calls lM 117 #[bq (some ⟨F,0,none⟩),bp A l.length c,bm bn n,bp AM more.length cm] w' λ en j=>en = bs (bm bn (dS (bV N K n more) 7 l))/\DD w' j from
  λ w' l A c B more AM cm t hl aE hp a3 a8=>by
   obtain⟨b1,b2,b3,b6,b7⟩:=kF.o w' t;exact IM b1 b2 b3 hN a3 a8 hl aE hn hp b6 b7)
 have KP:=qh (show ∀ w' p A c B,DD w w'->kz w' B A c p->B<=w'.heap.size->Calls lM 112 #[bq (some ⟨F,0,none⟩),bp A p.length c,bm bn n,br true] w' λ e j=>e = bs (bm bn (pq (bV N K n (cZ N K n)) f.ag.length true p))/\DD w' j from
  λ w' p A c B hb hp C=>by
   obtain⟨b1,b2,b3,b6,b7⟩:=kF.o w' hb;exact yB b1 b2 b3 hN hp C (λ _=>⟨n,rfl,hn,rfl⟩) b6 b7)
 have KI:=qh (show ∀ w',DD w w'->Calls lM 169 #[bq (some ⟨gb,0,none⟩),bm bn n] w' λ e j=>(∃ v,e = bs v/\(∃ A c,v = bp A (cZ N K n).length c/\eX j j.heap.size A (cZ N K n)/\((A=none/\c=0/\cZ N K n = [])\/(∃ m,cZ N K n = [m]))))/\DD w' j from λ w' t=>Fq (kF.o w' t).1 n hn);obtain⟨R,hR⟩:=af (xZ N K f.ag.length n);have HF:=qh (show R=if dS (bV N K n [⟨uD,4,[]⟩]) 7 d.ans.only≠0 then dS (bV N K n [⟨uD,4,[]⟩]) 7 d.ans.only else oh N K f.ag.length n d.ans.ch by rw[<- hR];unfold xZ;rw[iD hn,hd]);rw[hR];obtain⟨r,hr⟩:=af (dS (bV N K n [⟨uD,4,[]⟩]) 7 d.ans.only);rw[hr] at HF;obtain⟨nl,ar⟩:=af (f.ag.length);rw[ar] at HF KP;obtain⟨W2,an,ag,B2⟩:=box W 51 #[bo { data:=#[111,112,116,105,111,110] },bm bn 4,bp none 0 0];have q:=al.trans (ag.mono al.size);have K1:=qh (show Calls lM 117 #[bq (some ⟨F,0,none⟩),bp B1 d.ans.only.length b1,bm bn n,bp (some ⟨W.heap.size,0,none⟩) 1 1] W2 _ from hr▸KB.o W2 d.ans.only B1 b1 B0 [⟨uD,4,[]⟩] (some ⟨W.heap.size,0,none⟩) 1 q (HL.o.1.keep (λ _ _ h=>h.keep (q.mono C)) (q.mono C)) (bt C q.size) ak
  ⟨by decide,_,⟨rfl,λ _=>⟨_,rfl,B2.lt,gZ (cs:=[bo { data:=#[111,112,116,105,111,110] },bm bn 4,bp none 0 0]) B2⟩⟩,λ i hi=>by
   obtain rfl:i=0:=by simpa using hi
   exact⟨⟨none,0,rfl,Reads.none_,bB _⟩,(show uD.size<=maxLen by decide),bx _,λ s hs=>by cases hs⟩⟩ (.inr ⟨_,rfl⟩))
 have aD:=qh ab;clear h ak ab Y ay hR hr ar T BW B2 hN hd P;go_enter func119,ntmps119;go_upto_region 2 with (fail);clear a0 a1 cX;have a2:=Below.cell_of al M;by_cases h0:r=0
 case' pos =>
  have HF:=qh (HF.o.trans (if_neg (λ h=>h h0)));obtain⟨g0,ac⟩:=iP h0
 case' neg =>
  have Q:=qh (HF.o.trans (if_pos h0));obtain⟨g0,ac⟩:=fH h0
 all_goals clear h0
 all_goals go_upto_region 3 with (rw[<- an];go_at_call 117;(with_reducible refine K1.o.mono ?_);rintro e1 w1 ⟨rfl,S⟩)
 .have aZ:=q.trans (S.mono q.size);go_wp2;go_ret;exact⟨aj Q.o.symm,aZ⟩
 have aZ:=q.trans (S.mono q.size);have q9:=Below.cell_of (ag.trans (S.mono ag.size)) q9;clear q5 a2 K1 an S;go_wp2;clear q9 M;go_loopw [36] (λ i wr=>∃ k:Nat,i = bm bn k/\k<=d.ans.ch.length/\Hid (R=oh N K nl n (d.ans.ch.drop k))/\DD w wr) (λ i _=>d.ans.ch.length+1 - (intOf i).toNat)
 case atStart=>exact⟨0,rfl,bx _,HF,aZ⟩
 case round =>
  obtain⟨k,rfl,hk,HD,hb⟩:=hrel;have hs:=hb.size;by_cases hlt:k<d.ans.ch.length
  case neg =>
   obtain rfl:k=d.ans.ch.length:=by omega
   have Q:=qh (show R=0 from HD.o.trans (by rw[bA];rfl));go_wp2;go_ret;exact⟨aj Q.o.symm,hb⟩
  have HD:=qh (HD.o.trans (OY hlt));obtain⟨ae,ci,rfl,aM,⟨es,A2,c2,rfl,hE,oO⟩,y⟩:=aF.at_ (aF.keep (λ _ _ h=>h.keep (hb.mono C)) HL.o.2.1 (hb.mono C)) hlt;obtain⟨a,P⟩:=af (d.ans.ch[k]);have zk:=qh (aD.o a (P▸bO hlt));rw[P] at hE y oO HD;have aq:=qh hE;have aV:=qh hlt;obtain⟨e,he⟩:=af (a.must);rw[he] at hE aq HD zk;obtain⟨-,-,-,-,-,-,-⟩:=hE;rename_i A3 c3 A4 c4 bb;obtain⟨ds,o⟩:∃ ds:List Value,aA e A3 c3 A4 c4 ++ [br a.soft,bp A2 a.ph.length c2]=ds:=⟨_,rfl⟩;have EZ:=Gl (w:=wr) (ad:=ae.add (k*10)) (show ds.length=10 by subst o;rfl) (by subst o;exact y);have Z:=Gm (w:=wr) (show ds.length=10 by subst o;rfl) (by subst o;simp[bE,aA]);obtain⟨b,wV,V,O⟩:=box wr 144 ds.toArray;rw[<- wV] at Z;have D:=hb.trans (V.mono hs);have z0:b.cell? ⟨wr.heap.size,0,none⟩=some (bm bn e.k):=by rw[O.cell 0];subst o;rfl
  have z1:b.cell? ⟨wr.heap.size,1,none⟩=some (bm bn e.op):=by rw[O.cell 1];subst o;rfl
  have z2:b.cell? ⟨wr.heap.size,2,none⟩=some (bo e.nm):=by rw[O.cell 2];subst o;rfl
  have z3:b.cell? ⟨wr.heap.size,3,none⟩=some (bm bn e.v.k):=by rw[O.cell 3];subst o;rfl
  have z4:b.cell? ⟨wr.heap.size,4,none⟩=some (bm bn e.v.n):=by rw[O.cell 4];subst o;rfl
  have z5:b.cell? ⟨wr.heap.size,5,none⟩=some (bo e.v.s):=by rw[O.cell 5];subst o;rfl
  have z6:b.cell? ⟨wr.heap.size,6,none⟩=some (bp A3 e.v.l.length c3):=by rw[O.cell 6];subst o;rfl
  have z7:b.cell? ⟨wr.heap.size,7,none⟩=some (bp A4 e.ar.length c4):=by rw[O.cell 7];subst o;rfl
  have z9:b.cell? ⟨wr.heap.size,9,none⟩=some (bp A2 a.ph.length c2):=by rw[O.cell 9];subst o;rfl
  have M:=(kF.o b D).2.1;have ba:=V.size;obtain⟨r,hr⟩:=af (dS (bV N K n (cZ N K n)) 7 [e]);obtain⟨s,am⟩:=af (pq (bV N K n (cZ N K n)) nl true a.ph);rw[hr,am] at HD;have Jc:=qh oO;have KS:=qh (show ∀ w',DD b w'->Calls lM 112 #[bq (some ⟨F,0,none⟩),bp A2 a.ph.length c2,bm bn n,br true] w' λ e j=>e = bs (bm bn s)/\DD w' j from λ w' t =>
   am▸KP.o w' a.ph A2 c2 B0 (D.trans (t.mono D.size)) (Jc.o.keep ((V.mono (bt C hs)).trans (t.mono (bt C D.size)))) (bt C (bt D.size t.size)))
  obtain⟨I,hI⟩:=af (cZ N K n);rw[hI] at hr;have ao:=qh (show ∀ w',DD b w'->Calls lM 169 #[bq (some ⟨gb,0,none⟩),bm bn n] w' λ e j=>(∃ v,e = bs v/\(∃ A c,v = bp A I.length c/\eX j j.heap.size A I/\((A=none/\c=0/\I = [])\/(∃ m,I = [m]))))/\DD w' j from λ w' t=>hI▸KI.o w' (D.trans (t.mono D.size)));have av:=qh (show ∀ w' g U c6,DD b w'->ah w' g 67 (Ag e A3 c3 A4 e.ar.length c4)->eX w' w'.heap.size U I->((U=none/\c6=0/\I = [])\/(∃ m,I = [m]))->Calls lM 117 #[bq (some ⟨F,0,none⟩),bp (some ⟨g,0,none⟩) 1 1,bm bn n,bp U I.length c6] w' λ en j=>en = bs (bm bn r)/\DD b j from λ w' g U c6 t aw Wj z=>by
   have h:=KB.o w' [e] (some ⟨g,0,none⟩) 1 w'.heap.size I U c6 (D.trans (t.mono D.size)) ⟨(show 1<=maxLen by decide),aA e A3 c3 A4 c4,⟨rfl,λ _=>⟨_,rfl,aw.lt,gZ (cs:=aA e A3 c3 A4 c4) aw⟩⟩,λ i hi=>by
    obtain rfl:i=0:=by simpa using hi
    exact (aq.o.keep ((V.mono (bt C hs)).trans (t.mono (bt C D.size)))).up (bt C (bt D.size t.size))⟩ (bB _) (λ x hx=>by rw[bS] at hx;rw[hx];exact zk.o) Wj z
   rw[hr] at h;exact h.mono λ _ _ ⟨h1,h2⟩=>⟨h1,t.trans (h2.mono t.size)⟩)
  have H:=Below.refl b.heap.size b;have DU:=qh (show ∀ w',DD b w'->w'.cell? ⟨F,0,none⟩=some (bq (some ⟨gb,0,none⟩))/\w'.cell? ⟨wr.heap.size,0,none⟩=some (bm bn e.k)/\w'.cell? ⟨wr.heap.size,1,none⟩=some (bm bn e.op)/\w'.cell? ⟨wr.heap.size,2,none⟩=some (bo e.nm)/\w'.cell? ⟨wr.heap.size,3,none⟩=some (bm bn e.v.k)/\w'.cell? ⟨wr.heap.size,4,none⟩=some (bm bn e.v.n)/\w'.cell? ⟨wr.heap.size,5,none⟩=some (bo e.v.s)/\w'.cell? ⟨wr.heap.size,6,none⟩=some (bp A3 e.v.l.length c3)/\w'.cell? ⟨wr.heap.size,7,none⟩=some (bp A4 e.ar.length c4)/\DD b w' from λ w' t=>⟨Below.cell_of t M,Below.cell_of t z0,Below.cell_of t z1,Below.cell_of t z2,Below.cell_of t z3,Below.cell_of t z4,Below.cell_of t z5,Below.cell_of t z6,Below.cell_of t z7,t⟩);have a6:=qh z9;clear y P he o aM oO hr am hI wV O z9;go_upto_region 8 with (fail);clear EZ Z;go_region_held3 (λ w'=>w'.cell? ⟨F,0,none⟩=some (bq (some ⟨gb,0,none⟩))/\w'.cell? ⟨wr.heap.size,0,none⟩=some (bm bn e.k)/\w'.cell? ⟨wr.heap.size,1,none⟩=some (bm bn e.op)/\w'.cell? ⟨wr.heap.size,2,none⟩=some (bo e.nm)/\w'.cell? ⟨wr.heap.size,3,none⟩=some (bm bn e.v.k)/\w'.cell? ⟨wr.heap.size,4,none⟩=some (bm bn e.v.n)/\w'.cell? ⟨wr.heap.size,5,none⟩=some (bo e.v.s)/\w'.cell? ⟨wr.heap.size,6,none⟩=some (bp A3 e.v.l.length c3)/\w'.cell? ⟨wr.heap.size,7,none⟩=some (bp A4 e.ar.length c4)/\DD b w')
   (first | exact DU.o _ H | exact DU.o _ H.drew | exact DU.o _ (H.trans (az b _)).drew | exact DU.o _ u | exact DU.o _ u.drew | exact DU.o _ (u.trans ((az X _).mono u.size)) | exact DU.o _ J)
   (first
    | (go_at_call 169;(with_reducible refine (ao.o _ H.drew).mono ?_);rintro e6 X ⟨⟨v6,rfl,U,c6,rfl,Wj,z⟩,E⟩;have u:=H.drew.trans E;have G:=qh (bv Wj z);clear Wj z E)
    | (go_at_call 169;(with_reducible refine (ao.o _ (az b _).drew).mono ?_);rintro e6 X ⟨⟨v6,rfl,U,c6,rfl,Wj,z⟩,E⟩;have u:=(az b _).drew.trans (E.mono (az b _).size);have G:=qh (bv Wj z);have a4:=qh (show ah X b.heap.size 67 (Ag e A3 c3 A4 e.ar.length c4) from (show ah (b.alloc _).drew b.heap.size 67 (Ag e A3 c3 A4 e.ar.length c4) from ah.new b _ _).below E (ah.new b 67 (Ag e A3 c3 A4 e.ar.length c4)).lt);clear Wj z E)
    | (go_at_call 117;(with_reducible refine (av.o _ _ U c6 u a4.o G.o.1 G.o.2).mono ?_);rintro e7 w7 ⟨rfl,J⟩)
    | (go_at_call 117;(with_reducible refine (av.o _ _ U c6 (u.trans ((az X _).mono u.size)) (ah.new X _ _) ((G.o.1.keep (az X _)).UK (λ _ _ h=>h.up (az X _).size) (az X _).size) G.o.2).mono ?_);rintro e7 w7 ⟨rfl,J⟩))
  all_goals
   have aa:=D.trans (J.mono D.size);by_cases h0:r=0
   case neg =>
    have Q:=qh (HD.o.trans (if_pos h0));obtain⟨g0,ac⟩:=fH h0;clear h0;go_wp2;go_ret;exact⟨aj Q.o.symm,aa⟩
   have ap:=qh (HD.o.trans (if_neg (λ h=>h h0)));obtain⟨g0,ac⟩:=iP h0;have z9:=Below.cell_of J a6.o;clear h0;by_cases h1:s=0
   case' pos =>
    have Q:=qh (ap.o.trans (if_neg (λ h=>h h1)));obtain⟨g1,aR⟩:=iP h1
   case' neg =>
    have Q:=qh (ap.o.trans (if_pos h1));obtain⟨g1,aR⟩:=fH h1
   all_goals
    clear h1;go_wp2_with (go_at_call 112;(with_reducible refine (KS.o _ J).mono ?_);rintro e8 w8 ⟨rfl,aL⟩;have ax:=aa.trans (aL.mono aa.size))
    first
     | (go_ret
        exact⟨aj Q.o.symm,ax⟩)
     | (go_roundw
        case rel=>exact⟨k+1,by go_num,aV.o,Q,ax⟩
        case measure =>
         have:=aV.o;simp[intOf];omega)
end
open Go.RowKit
theorem infoByte:(lM.info? 5).map (λ i=>(i.zero,i.size,i.bytes))=some (some (.int .u8 0),1,1):=by kernel_rfl
def ajK (a b:Int):Int:=if a<b then -1 else if b<a then 1 else 0
def cmpL:List Int->List Int->Int
 | [],[]=>0
 | [],_ :: _=>-1
 | _ :: _,[]=>1
 | a :: l,b :: r=>if ajK a b=0 then cmpL l r else ajK a b
attribute [local go_sem ↓] Go.wp_at_zero Go.wp_at_succ
structure jv where
 nm:ByteArray
 row:List Int
 v:Val
 asked:Bool
structure uO where
 nm:ByteArray
 row:List Int
 nums:List Int
structure wY (w:World) (B:Nat) (d:jv) (cs:List Value):Prop where
 ex:∃ A1 c1 A2 c2,cs = [bo d.nm,bp A1 d.row.length c1,bm bn d.v.k,bm bn d.v.n,bo d.v.s,bp A2 d.v.l.length c2,br d.asked]/\Reads w B 1 A1 d.row.length (bK bn d.row)/\Reads w B 1 A2 d.v.l.length (bK bn d.v.l)
 h1:d.nm.size<=maxLen
 h2:d.row.length<=maxLen
 h3:d.v.s.size<=maxLen
 h4:d.v.l.length<=maxLen
structure TR (w:World) (B:Nat) (d:uO) (cs:List Value):Prop where
 ex:∃ A1 c1 A2 c2,cs = [bo d.nm,bp A1 d.row.length c1,bp A2 d.nums.length c2]/\Reads w B 1 A1 d.row.length (bK bn d.row)/\Reads w B 1 A2 d.nums.length (bK bn d.nums)
 h1:d.nm.size<=maxLen
 h2:d.row.length<=maxLen
 h3:d.nums.length<=maxLen
theorem wY.keep {w w':World} {B:Nat} {d:jv} {cs:List Value} (h:wY w B d cs) (a:Below B w w'):wY w' B d cs:=by
 obtain⟨⟨A1,c1,A2,c2,e,b,j⟩,i,f,c,g⟩:=h;exact⟨⟨A1,c1,A2,c2,e,b.below a,j.below a⟩,i,f,c,g⟩
theorem TR.keep {w w':World} {B:Nat} {d:uO} {cs:List Value} (h:TR w B d cs) (a:Below B w w'):TR w' B d cs:=by
 obtain⟨⟨A1,c1,A2,c2,e,b,i⟩,g,f,c⟩:=h;exact⟨⟨A1,c1,A2,c2,e,b.below a,i.below a⟩,g,f,c⟩
abbrev Gn:=aF wY 7
abbrev Ku:=aF TR 3
theorem Gn.keep {w w':World} {B:Nat} {A:Option Addr} {l:List jv} (h:Gn w B A l) (a:Below B w w'):Gn w' B A l:=aF.keep (λ _ _ h=>h.keep a) h a
theorem Ku.keep {w w':World} {B:Nat} {A:Option Addr} {l:List uO} (h:Ku w B A l) (a:Below B w w'):Ku w' B A l:=aF.keep (λ _ _ h=>h.keep a) h a
def adi (row:List Int) (n:Nat):Int:=if row.length≠n then 3 else if row.any mW=true then 1 else 0
def ajL (nm:ByteArray) (row:List Int) (nm':ByteArray) (row':List Int):Int:=
 if Lib.compareBytes nm.data.toList nm'.data.toList=0 then cmpL row row' else Lib.compareBytes nm.data.toList nm'.data.toList
def TS (nm:ByteArray) (row:List Int) (nm':ByteArray) (row':List Int):Int:=if ajL nm row nm' row'=0 then 6 else if ajL nm row nm' row' = -1 then 7 else 0
def leO (p:Option Int) (a:Int):Bool:=match p with
 | some q=>decide (a<=q)
 | none=>false
def aae:Option Int->List Int->Int
 | _,[]=>0
 | p,a :: r=>if mW a=true then 1 else if leO p a=true then 7 else aae (some a) r
def aaf (cells:List bu) (prev:List jv) (b:jv):Int:=
 match cells.find? (λ c=>decide (c.nm=b.nm)) with
 | none=>5
 | some c=>if adi b.row c.loops.length≠0 then adi b.row c.loops.length else if df b.v≠0 then df b.v else if 1<b.v.k/\b.v.k≠c.kind then 8 else
  match prev.getLast? with
  | none=>0
  | some p=>TS b.nm b.row p.nm p.row
def ajN (loops:List bU) (prev:List uO) (r:uO):Int:=
 match loops.find? (λ n=>decide (n.nm=r.nm)) with
 | none=>5
 | some n=>if adi r.row n.loops.length≠0 then adi r.row n.loops.length else if aae none r.nums≠0 then aae none r.nums else
  match prev.getLast? with
  | none=>0
  | some p=>TS r.nm r.row p.nm p.row
def Kv (cells:List bu) (loops:List bU) (bounds:List jv) (rows:List uO):Int:=
 if fO cells loops≠0 then fO cells loops else if 20000<bounds.length\/20000<rows.length then 2 else
 if fM (aaf cells) [] bounds≠0 then fM (aaf cells) [] bounds else fM (ajN loops) [] rows
def aag (w:World):Prop:=Lib.TabIs lM w "internal/strconv.uint64pow10" .u64 Lib.pow10Tab
theorem aag.below {w w':World} (h:aag w) (a:DD w w'):aag w':=aB h a
def TT (nm:List UInt8) (row:List Int):List UInt8:=nm ++ row.flatMap (λ n=>32 :: Lib.itoa n)
def ajO (d:jv):ByteArray:=⟨(TT d.nm.data.toList d.row).toArray⟩
def ajP (d:uO):ByteArray:=⟨(TT d.nm.data.toList d.row).toArray⟩
inductive Ib {α:Type} (P:ByteArray->Value->α->Prop):List (ByteArray × Value)->List α->Prop
 | nil:Ib P [] []
 | cons {s:ByteArray} {v:Value} {a:α} {kv:List (ByteArray × Value)} {l:List α} (h:P s v a) (t:Ib P kv l):Ib P ((s,v) :: kv) (a :: l)
theorem Ib.imp {α:Type} {P Q:ByteArray->Value->α->Prop} (b:∀ s v a,P s v a->Q s v a):∀ {c:List (ByteArray × Value)} {l:List α},Ib P c l->Ib Q c l
 | _,_,.nil=>.nil
 | _,_,.cons h t=>.cons (b _ _ _ h) (t.imp b)
theorem Ib.len {α:Type} {P:ByteArray->Value->α->Prop}:∀ {a:List (ByteArray × Value)} {l:List α},Ib P a l->a.length=l.length
 | _,_,.nil=>rfl
 | _,_,.cons _ t=>by simp[t.len]
def aga (w:World) (B:Nat) (s:ByteArray) (v:Value) (d:jv):Prop:=s=ajO d/\∃ cs:List Value,v = .agg cs.toArray/\wY w B d cs
def rowP (w:World) (B:Nat) (s:ByteArray) (v:Value) (d:uO):Prop:=s=ajP d/\∃ A c,v = bp A d.nums.length c/\Reads w B 1 A d.nums.length (bK bn d.nums)/\d.nums.length<=maxLen
structure KvB (w:World) (B:Nat) (kv:List (ByteArray × Value)) (l:List jv):Prop where
 rel:Ib (aga w B) kv l.reverse
structure KvR (w:World) (B:Nat) (kv:List (ByteArray × Value)) (l:List uO):Prop where
 rel:Ib (rowP w B) kv l.reverse
theorem KvB.len {w:World} {B:Nat} {a:List (ByteArray × Value)} {l:List jv} (h:KvB w B a l):a.length=l.length:=by rw[h.rel.len,bX]
theorem KvR.len {w:World} {B:Nat} {a:List (ByteArray × Value)} {l:List uO} (h:KvR w B a l):a.length=l.length:=by rw[h.rel.len,bX]
theorem KvB.keep {w w':World} {B:Nat} {a:List (ByteArray × Value)} {l:List jv} (h:KvB w B a l) (d:Below B w w'):KvB w' B a l:=
 ⟨h.rel.imp λ _ _ _ ⟨c,cs,b,e⟩=>⟨c,cs,b,e.keep d⟩⟩
theorem KvR.keep {w w':World} {B:Nat} {a:List (ByteArray × Value)} {l:List uO} (h:KvR w B a l) (f:Below B w w'):KvR w' B a l:=
 ⟨h.rel.imp λ _ _ _ ⟨e,A,c,b,g,d⟩=>⟨e,A,c,b,g.below f,d⟩⟩
theorem KvB.put {w:World} {B:Nat} {a:List (ByteArray × Value)} {l:List jv} (h:KvB w B a l) {d:jv} {cs:List Value} (b:wY w B d cs):KvB w B ((ajO d,.agg cs.toArray) :: a) (l ++ [d]):=
 ⟨by rw[b0];exact .cons ⟨rfl,cs,rfl,b⟩ h.rel⟩
theorem KvR.put {w:World} {B:Nat} {a:List (ByteArray × Value)} {l:List uO} (h:KvR w B a l) {d:uO} {A:Option Addr} {c:Nat} (b:Reads w B 1 A d.nums.length (bK bn d.nums)) (e:d.nums.length<=maxLen):KvR w B ((ajP d,bp A d.nums.length c) :: a) (l ++ [d]):=
 ⟨by rw[b0];exact .cons ⟨rfl,A,c,rfl,b,e⟩ h.rel⟩
structure adm (w:World) (B gs m1 m2 m3 m4:Nat) (lC lI XZ kv4:List (ByteArray × Value)) (cells:List bu) (loops:List bU) (lb:List jv) (lr:List uO):Prop where
 blk:ah w gs 168 #[.map (some m1),.map (some m2),.map (some m3),.map (some m4)]
 ty:SX w B m1 m2 lC lI cells loops
 m3m:aO w m3 XZ
 m4m:aO w m4 kv4
 kb:KvB w B XZ lb
 kr:KvR w B kv4 lr
 ne:gs≠m3/\gs≠m4/\m1≠m3/\m1≠m4/\m2≠m3/\m2≠m4/\m3≠m4/\B<=m3/\B<=m4/\B<=w.heap.size
theorem adm.keep {w w':World} {B s r v m u:Nat} {o t p k:List (ByteArray × Value)} {g:List bu} {i:List bU} {q:List jv} {lr:List uO} (h:adm w B s r v m u o t p k g i q lr) (j:DD w w'):adm w' B s r v m u o t p k g i q lr:=by
 obtain⟨a,b,c,d,e,f,n⟩:=h;have l:=n.2.2.2.2.2.2.2.2.2;exact⟨a.below j a.lt,b.keep j l,c.below j c.lt,d.below j d.lt,e.keep (j.mono l),f.keep (j.mono l),n.1,n.2.1,n.2.2.1,n.2.2.2.1,n.2.2.2.2.1,n.2.2.2.2.2.1,n.2.2.2.2.2.2.1,n.2.2.2.2.2.2.2.1,n.2.2.2.2.2.2.2.2.1,bt l j.size⟩
theorem um {B:Nat} {w w':World} {a:Option Nat} (b:w.grownBy w' a) (c:B<=w.heap.size) (d:∀ k,a=some k->B<=k):Below B w w':=(Below.refl B w).grown b c d
theorem aO.put {w:World} {b:Nat} {c:List (ByteArray × Value)} (h:aO w b c) {t e:TypeId} (f:lM.underlying t=some (.map 9 e)) (m:c.length<maxLen) {s:ByteArray} (k:s.size<=maxLen) (val:Value) :
  ∃ w',(Instr.mapUpdate t (.map (some b)) (bo s) val).run lM w = .ok () w'/\aO w' b ((s,val) :: c)/\w.grownBy w' (some b):=by
 obtain⟨D,l,j,n⟩:=h.ex;obtain⟨w',a,g,i⟩:=l.update (Maps.string_keyed underlying9) f m (key:=.string s) (val:=val) (keyS k) (d:=.held val) (ps:=[]) rfl;exact⟨w',a,aO.store j n g,i⟩
attribute [local go_sem ↓] ld_item st_item ld_node st_node ld_ans st_ans ld_part st_part ld_rule st_rule ld_form st_form
theorem grown_of {w w':World} (a:DD w w') (r:Option Nat):w.grownBy w' r:=⟨a.os,a.tape,a.output,a.size,λ i b _=>a.block i b⟩
theorem lg {a w w':World} {row:Option Nat} (h:a.grownBy w row) (k:w.grownBy w' row):a.grownBy w' row:=
 ⟨k.os.trans h.os,k.tape.trans h.tape,k.output.trans h.output,bt h.size k.size,λ i b c=>(k.block i (bw b h.size) c).trans (h.block i b c)⟩
theorem Df {w w':World} {B size n m:Nat} {A:Option Addr} {cs:List Value} (h:Reads w B size A n cs) (f:w.grownBy w' (some m)) (a:∀ ad,A=some ad->ad.block≠m):Reads w' B size A n cs:=by
 refine⟨h.1,λ d=>?_⟩;obtain⟨ad,e,c,g⟩:=h.2 d;refine⟨ad,e,c,λ j u b=>f.cell (g j u b) (λ q=>?_)⟩;injection q with q;rw[iw] at q;exact a ad e q
def zD (w:World) (m:Nat) (K:aY) (n:Nat):Prop:=∃ kv,aO w m kv/\ab7 kv K/\kv.length<=n
theorem zD.keep {w w':World} {m n:Nat} {K:aY} (h:zD w m K n) (d:DD w w'):zD w' m K n:=by
 obtain⟨c,a,b⟩:=h;exact⟨c,a.below d a.lt,b⟩
theorem zD.up {w:World} {m n:Nat} {K:aY} (h:zD w m K n):zD w m K (n+1):=by
 obtain⟨b,c,a,d⟩:=h;exact⟨b,c,a,by omega⟩
theorem aT.put {w:World} {B0 l m o d:Nat} {x:jS} {f:aI} {N:List au} {K:aY} (h:aT w B0 l m o d x f N K) {w':World} {n:Nat} {K':aY} (a:w.grownBy w' (some d)) (g:zD w' d K' n):aT w' B0 l m o d x f N K':=by
 obtain⟨r,C,b1⟩:=h.by_;obtain⟨z,p,b2⟩:=h.ls;obtain⟨y,v,b3,-⟩:=g;obtain⟨H,J,I,L,B,G,D⟩:=h.ne;have b:Below B0 w w':=um a h.le (λ k g=>by injection g with g;omega);refine⟨h.blk.grown a (λ e=>D (by injection e)),h.form.keep b,?_,h.cap,⟨r,C.kept a (λ e=>B (by injection e)),b1⟩,⟨z,p.kept a (λ e=>G (by injection e)),b2.keep b⟩,⟨y,v,b3⟩,h.ne,bt h.le a.size⟩;obtain⟨c1,c2,cs,c3,c4⟩:=h.nodes;refine⟨c1,c2,cs,(Df c3 a c2).more a.size,λ i q=>?_⟩;obtain⟨t,A,c,e,u,⟨E,F⟩,s,j⟩:=c4 i q;exact⟨t,A,c,e,u.keep b,⟨(Df E a j).more a.size,F⟩,s,j⟩
theorem aah {a:List (ByteArray × Value)} {K:aY} (h:ab7 a K) (s:ByteArray) (k:Int):ab7 ((s,bm bn k) :: a) ((s,k) :: K):=by
 intro t;rw[di,List.find?_cons];by_cases e:s=t
 .simp[e]
 .simp only[e,if_false,decide_false];exact h t
theorem OZ {w:World} {B0 gb m1 m2 z:Nat} {x:jS} {f:aI} {N:List au} {K:aY} (h:aT w B0 gb m1 m2 z x f N K) {G:Nat} (an:w.cell? ⟨G,0,none⟩=some (bq (some ⟨gb,0,none⟩))) (aL:G<w.heap.size) (hN:gW N) {n j:Nat} (hn:n<N.length) (hj:j<=1000) (ag:zD w z K j) (U:∀ e∈N[n].it.iff,e.parts<=1000000) (ab:∀ e∈N[n].it.cnt,e.parts<=1000000) (T:∀ e∈N[n].it.cmp,e.parts<=1000000) (tZ:∀ e∈N[n].it.ans.only,e.parts<=1000000) (DY:∀ r∈N[n].it.ans.ch,r.must.parts<=1000000) (P:N[n].it.k=5->N[n].it.cmp.length=1) (F:Tab w) (ak:Mx w) :
  Calls lM 74 #[bq (some ⟨G,0,none⟩),bm bn n] w λ e w'=>e = bs (bm bn (qw N f.lists K f.ag.length n).1)/\aT w' B0 gb m1 m2 z x f N (qw N f.lists K f.ag.length n).2/\zD w' z (qw N f.lists K f.ag.length n).2 (j+1)/\w.grownBy w' (some z):=by
 have H:=h.le;have aM:=h.cap;have tq:=h.nodes.1;obtain⟨ad,A1,c1,A2,c2,A3,c3,A4,c4,A5,c5,B1,b1,B2,b2,B3,b3,W,cs,cX,aw,ax,C,BW,g,hit⟩:=h.itm hn;obtain⟨d,hd⟩:=af (N[n].it);rw[hd] at g hit U T P;have I:aF bC 8 w B0 A1 d.iff:=by subst g;cases hit;assumption
 have oO:kz w B0 A2 c2 d.ph:=by subst g;cases hit;assumption
 have J:aF bC 8 w B0 A5 d.cmp:=by subst g;cases hit;assumption
 have ay:d.nm.size<=maxLen:=by subst g;cases hit;assumption
 have q0:W.cell? ⟨w.heap.size,0,none⟩=some (bm bn d.k):=by rw[BW.cell 0];subst g;rfl
 have q1:W.cell? ⟨w.heap.size,1,none⟩=some (bo d.nm):=by rw[BW.cell 1];subst g;rfl
 have q2:W.cell? ⟨w.heap.size,2,none⟩=some (bp A1 d.iff.length c1):=by rw[BW.cell 2];subst g;rfl
 have q3:W.cell? ⟨w.heap.size,3,none⟩=some (bp A2 d.ph.length c2):=by rw[BW.cell 3];subst g;rfl
 have al:W.cell? ⟨w.heap.size,18,none⟩=some (bp A5 d.cmp.length c5):=by rw[BW.cell 18];subst g;rfl
 have Z:=qh (show ∀ w',DD W w'->aT w' B0 gb m1 m2 z x f N K/\w'.cell? ⟨G,0,none⟩=some (bq (some ⟨gb,0,none⟩))/\G<w'.heap.size/\Tab w'/\Mx w'/\zD w' z K j/\w.grownBy w' (some z)/\DD w w'/\w'.cell? ⟨w.heap.size,0,none⟩=some (bm bn d.k)/\w'.cell? ⟨w.heap.size,1,none⟩=some (bo d.nm)/\w'.cell? ⟨w.heap.size,3,none⟩=some (bp A2 d.ph.length c2)/\w'.cell? ⟨w.heap.size,18,none⟩=some (bp A5 d.cmp.length c5) from λ w' hb=>by
  have q:=C.trans (hb.mono C.size);exact⟨h.keep q,Below.cell_of q an,bw aL q.size,aB F q,ak.below q,ag.keep q,grown_of q _,q,Below.cell_of hb q0,Below.cell_of hb q1,Below.cell_of hb q3,Below.cell_of hb al⟩)
 have HP:=qh (bv ab (bv tZ DY));obtain⟨R,hR⟩:=af (qw N f.lists K f.ag.length n);have k:=qh (show R=if dS (bV N K n []) 7 d.iff≠0 then (dS (bV N K n []) 7 d.iff,K) else
  if pq (bV N K n (cZ N K n)) f.ag.length true d.ph≠0 then (pq (bV N K n (cZ N K n)) f.ag.length true d.ph,K) else
  if d.k=3 then (Iy N f.lists K n,K) else if d.k=4 then (xZ N K f.ag.length n,K) else
  if d.k=5 then (match d.cmp with
   | []=>(0,K)
   | e :: _=>((bV N K n [] e).2,(d.nm,(bV N K n [] e).1) :: K)) else (0,K) by rw[<- hR];unfold qw;rw[iD hn,hd];rfl)
 rw[hR];obtain⟨b1,b2,b3,v,t,-,-,b8,-,-,-,-⟩:=Z.o W (Below.refl _ _);obtain⟨r1,Y⟩:=af (dS (bV N K n []) 7 d.iff);have K1:=qh (show Calls lM 117 #[bq (some ⟨G,0,none⟩),bp A1 d.iff.length c1,bm bn n,bp none 0 0] W _ from Y▸IM b1 b2 b3 hN (AM:=none) (cm:=0) (c:=c1) (more:=[]) ⟨by decide,[],Reads.none_,λ i hi=>by cases hi⟩ (.inl ⟨rfl,rfl,rfl⟩) (I.keep (λ _ _ h=>h.keep (C.mono H)) (C.mono H)) (bt H C.size) hn U v t);obtain⟨r2,V⟩:=af (pq (bV N K n (cZ N K n)) f.ag.length true d.ph);have K2:=qh (show ∀ w',DD W w'->Calls lM 112 #[bq (some ⟨G,0,none⟩),bp A2 d.ph.length c2,bm bn n,br true] w' λ e aE=>e = bs (bm bn r2)/\DD w' aE from λ w' hq=>by
  obtain⟨b1,b2,b3,v,t,-,-,b8,-⟩:=Z.o w' hq;exact V▸yB b1 b2 b3 hN (oO.keep (b8.mono H)) (bt H b8.size) (λ _=>⟨n,rfl,hn,rfl⟩) v t)
 rw[Y,V] at k;have aa:=qh (bv P (bv J T));have aV:=h.ne;clear h I oO J U ab T tZ DY P F ak hR Y V g hit BW hd ag b1 b3 v t b8;go_enter func74,ntmps74;go_upto_region 2 with (fail);clear aw ax cX an;by_cases h0:r1=0
 case' pos =>
  have k:=qh (k.o.trans (if_neg (λ h=>h h0)));obtain⟨g0,av⟩:=iP h0
 case' neg =>
  have A:=qh (k.o.trans (if_pos h0));obtain⟨g0,av⟩:=fH h0
 all_goals
  clear h0;go_upto_region 3 with (go_at_call 117;(with_reducible refine K1.o.mono ?_);rintro e1 w1 ⟨rfl,D⟩);obtain⟨b1,b2,b3,v,t,y,b,b8,X,S,M,p⟩:=Z.o w1 D;clear q0 q1 q2 q3 al
 .clear X S M p;go_wp2;go_ret;rw[A.o];exact⟨rfl,b1,y.up,b⟩
 have KP:=qh (K2.o w1 D);clear K1 K2 b1 b3 v t y b b8;by_cases h0:r2=0
 case' pos =>
  have k:=qh (k.o.trans (if_neg (λ h=>h h0)));obtain⟨g2,ap⟩:=iP h0
 case' neg =>
  have A:=qh (k.o.trans (if_pos h0));obtain⟨g2,ap⟩:=fH h0
 all_goals
  clear h0;go_upto_region 6 with (go_at_call 112;(with_reducible refine KP.o.mono ?_);rintro e2 w2 ⟨rfl,o⟩);have o:=D.trans (o.mono D.size);clear b2 X S M p;obtain⟨b1,b2,b3,v,t,y,b,b8,X,S,M,p⟩:=Z.o w2 o
 .clear X S M p;go_wp2;go_ret;rw[A.o];exact⟨rfl,b1,y.up,b⟩
 by_cases h3:d.k=3
 .have A:=qh (k.o.trans (if_pos h3));obtain⟨g3,ar⟩:=iP h3;have L:=qh (Wp b1 b2 b3 hN hn HP.o.1 v t);obtain⟨l,hl⟩:=af (Iy N f.lists K n);rw[hl] at L A;clear h3 hl b1 b2 b3 v t y b b8;go_wp2_with (go_at_call 118;(with_reducible refine L.o.mono ?_);rintro e3 E ⟨rfl,s⟩);obtain⟨b1,-,-,-,-,y,b,-⟩:=Z.o E (o.trans (s.mono o.size));go_ret;rw[A.o];exact⟨rfl,b1,y.up,b⟩
 have k:=qh (k.o.trans (if_neg h3));obtain⟨g3,ar⟩:=fH h3;by_cases h4:d.k=4
 .have A:=qh (k.o.trans (if_pos h4));obtain⟨g4,aD⟩:=iP h4;have L:=qh (RD b1 b2 b3 hN hn HP.o.2.1 HP.o.2.2 v t);obtain⟨l,hl⟩:=af (xZ N K f.ag.length n);rw[hl] at L A;clear h3 h4 hl b1 b2 b3 v t y b b8;go_wp2_with (go_at_call 119;(with_reducible refine L.o.mono ?_);rintro e3 E ⟨rfl,s⟩);obtain⟨b1,-,-,-,-,y,b,-⟩:=Z.o E (o.trans (s.mono o.size));go_ret;rw[A.o];exact⟨rfl,b1,y.up,b⟩
 have k:=qh (k.o.trans (if_neg h4));obtain⟨g4,aD⟩:=fH h4;by_cases h5:d.k=5
 case neg =>
  have A:=qh (k.o.trans (if_neg h5));obtain⟨g5,Xg⟩:=fH h5;clear S M p h3 h4 h5;go_wp2;go_ret;rw[A.o];exact⟨rfl,b1,y.up,b⟩
 have k:=qh (k.o.trans (if_pos h5));obtain⟨g5,Xg⟩:=iP h5;obtain⟨a,Q⟩:=List.length_eq_one_iff.1 (aa.o.1 h5);rw[Q] at k;rw[Q,show [a].length=1 from rfl] at p;have HC:=aa.o.2;rw[Q] at HC;have am:=HC.2 a (bS.2 rfl);obtain⟨ae,ci,rfl,aq,B,m⟩:=aF.at_ (aF.keep (λ _ _ h=>h.keep (b8.mono H)) HC.1 (b8.mono H)) (Nat.lt_succ_self 0)
 replace B:bC w2 B0 a ci:=B
 replace m:∀ j u,ci[j]?=some u->w2.cell? (ae.add j)=some u:=m
 have Fa:=B;obtain⟨-,-,-,-,-,-,-⟩:=Fa;rename_i A7 c7 A8 c8 aZ;obtain⟨f0,f1,f2,f3,f4,f5,f6,f7⟩:=e8 m;have L:=qh (show Calls lM 120 #[.pointer (some ⟨G,0,none⟩),.agg (Ag a A7 c7 A8 a.ar.length c8),.int .i64 n,.slice none 0 0] w2 _ from wU b1 b2 b3 hN (more:=[]) ⟨by decide,[],Reads.none_,λ i hi=>by cases hi⟩ (.inl ⟨rfl,rfl,rfl⟩) B (bt H b8.size) hn am v t);obtain⟨r,hr⟩:=af (bV N K n [] a);have k:=qh (show R=((bV N K n [] a).2,(d.nm,(bV N K n [] a).1) :: K) from k.o);rw[hr] at L k;clear h3 h4 h5 hr m B aq am b1 b2 b3 v t y b b8 S M;go_upto_region 15 with (go_at_call 120;(with_reducible refine L.o.mono ?_);rintro e3 E ⟨rfl,s⟩);have s:=o.trans (s.mono o.size);clear f0 f1 f2 f3 f4 f5 f6 f7 p X;obtain⟨b1,b2,b3,v,t,y,b,b8,X,S,M,p⟩:=Z.o E s;have g8:E.cell? ⟨gb,8,none⟩=some (.map (some z)):=b1.blk.cell 8;obtain⟨kv,k1,k2,k3⟩:=y;obtain⟨W9,aR,ao,Wq⟩:=(show aO E.drew z kv from k1.same rfl).put underlying112 (by unfold maxLen;omega) ay (.int .i64 r.1);have O:=qh (bv b1 (bv b k2));clear b1 b3 v t b8 b k1 k2 X M p;go_region;go_wp2;go_ret;have hg:=lg (grown_of (Below.refl E.heap.size E).drew (some z)) Wq;have ac:zD W9 z ((d.nm,r.1) :: K) (j+1):=⟨_,ao,aah O.o.2.2 d.nm r.1,by simp;omega⟩;rw[k.o];exact⟨rfl,O.o.1.put hg ac,ac,lg O.o.2.1 hg⟩
end Go.Proofs.YtcnagconagpkcaaGreatDoor
