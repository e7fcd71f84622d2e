/- Lemmas. -/
import Derived.Test.YtcnagconagpkcaaGreatDoorZ10
import Derived.Laws.AppendOwn
set_option maxHeartbeats 4000000
set_option maxRecDepth 100000
open Go.Value renaming int->bg, string->bi, slice->bj, pointer->bk
open Go.IntKind renaming i64->bh
open Go.Ending renaming returned->bl
open Go.AllReadyH renaming cons->bm, nil->bn
open Or renaming inl->bo
open Nat renaming le_trans->bp, le_refl->bq, zero_mul->bx, lt_of_lt_of_le->bB
open And renaming intro->br
open Go.NoPanic renaming normal->bs
open List renaming length_append->bt, getElem_mem->bv, length->bw, drop_eq_nil_of_le->bA, append_nil->bE, drop_eq_getElem_cons->bL, length_tail->bN
namespace Go.Proofs.YtcnagconagpkcaaGreatDoor
open Go.RowKit
attribute [local go_sem ↓] Go.wp_at_zero Go.wp_at_succ
theorem abL {w:World} {B:Nat} {ad:Addr} (h:dB w B (some ad) wJ) {op:Int} (e:1<=op) (f:op<=6):∃ b o,ad=⟨b,o,none⟩/\w.cell? ⟨b,o+op.toNat,none⟩=some (bi (tx (kW op))):=by
 obtain⟨b,o,d,g,a⟩:=h.plain (show 0<wJ.length by decide);refine⟨b,o,Option.some.inj d,a _ _ ?_⟩;have c:op.toNat=1\/op.toNat=2\/op.toNat=3\/op.toNat=4\/op.toNat=5\/op.toNat=6:=by omega
 unfold kW;rcases c with h | h | h | h | h | h <;> rw[h] <;> rfl
theorem U4 (e:Ex) (C:e.k=5) (hI:∀ a∈e.ar,fD 212 a) (h9:∀ a∈e.ar,a.text.length<=1000000000) (hj:∀ l,((insL l e.ar).map bw).sum+98*e.ar.length<=999999000) (am:e.ar.length<=999999) (hP:jV e=0) (B:Nat) (cs:List Value) (w:World) (hx:aQ w B e cs) (hB:B<=w.heap.size) (Q:Tab w) (hm:Mx w) :
  CS 212 #[.agg cs.toArray] w (bi (tx (e.text))):=by
 have P:=lQ hP;have HX:=qh hx;obtain⟨R,hR⟩:=af (e.text);rw[hR];have U:=hR.symm.trans (text_eq e);have o8:=qh (λ w' (x:EG w w')=>br (aF Q x) (hm.below x));obtain⟨hn,hs,hl,ha,hx,hr,hi⟩:=hx;rename_i A1 c1 A2 T cs;have ru:=qh (λ w' (x:EG w w')=>HX.o.keep (x.mono hB));have av:(e.k == 1)=false:=by rw[C];rfl
 have aw:(e.k == 2)=false:=by rw[C];rfl
 have aL:(e.k == 3)=false:=by rw[C];rfl
 have ax:(e.k == 5)=true:=by rw[C];rfl
 rw[if_neg (by omega),if_neg (by omega),if_neg (by omega),if_pos C] at U;have ac:=P.op5 C;have h1:=P.a5 C;have ae:=zU (sH hP (.inr (.inr C)));have ay:e.nm.size<=16:=by simpa using ae
 obtain⟨ad,aA,rfl,ap,yO,E⟩:=yN hr hi (show 0<e.ar.length by omega);have hg:=xI 0 e.ar 0 (by omega);have hz:=h9 _ (bv (show 0<e.ar.length by omega));have V:=hI _ (bv (show 0<e.ar.length by omega));obtain⟨a,ak⟩:=af (e.ar[0]);rw[ak] at yO hg hz V;have tq:=qh yO;obtain⟨z1,z2,z3,z4,an,ar,al⟩:=yO;rename_i A3 Z Y X aD;have J:∀ j u,(az a A3 Z Y X)[j]?=some u->w.cell? (ad.add j)=some u:=λ j u hu=>by have h:=E j u hu;rwa [bx,mf] at h
 have qJ:w.cell? (ad)=some (bg bh a.k):=J 0 _ rfl;have rU:w.cell? ⟨(ad).block,(ad).off+1,none⟩=some (bg bh a.op):=J 1 _ rfl;have x9:w.cell? ⟨(ad).block,(ad).off+2,none⟩=some (bi a.nm):=J 2 _ rfl;have AP:w.cell? ⟨(ad).block,(ad).off+3,none⟩=some (bg bh a.v.k):=J 3 _ rfl;have AQ:w.cell? ⟨(ad).block,(ad).off+4,none⟩=some (bg bh a.v.n):=J 4 _ rfl;have AU:w.cell? ⟨(ad).block,(ad).off+5,none⟩=some (bi a.v.s):=J 5 _ rfl;have AV:w.cell? ⟨(ad).block,(ad).off+6,none⟩=some (bj A3 a.v.l.length Z):=J 6 _ rfl;have AZ:w.cell? ⟨(ad).block,(ad).off+7,none⟩=some (bj Y a.ar.length X):=J 7 _ rfl;have aE:=qh h1;have aq:=XG a;obtain⟨t,M⟩:=af (tx a.text);obtain⟨s,L⟩:=af (tx (kW e.op));have st:t.size<=1000000000:=by rw[<- M,lK];exact hz
 have ss:s.size<=5:=by rw[<- L,lK];exact SS e.op
 have FK:=qh L;have jD:=qh M;have ab:=qh ac;have Qy:=qh V;have HR:=qh (show tx R=s ++ ⟨#[40]⟩ ++ e.nm ++ ⟨#[58,32]⟩ ++ t ++ ⟨#[41]⟩ by
  rw[U,hg,<- L,<- M];have hp:rW (decide (iE a<0)) a.text=a.text:=by unfold rW;rw[decide_eq_false (by omega)];rfl
  rw[hp];have aa:e.nm=tx e.nm.data.toList:=NU rfl;rw[aa,<- iP,<- iP,<- iP,<- iP,<- iP];rw[<- aa];try rfl)
 have o1:0<=e.op:=by omega
 have o2:e.op<7:=by omega
 clear hx hr hi Q hm hI h9 hj am hR U E J an ar al ap ak z1 z2 z3 z4 P hP C hg hz V M L aq ae ac;change Hid (∀ w',EG w w'->aQ w' B e [bg bh e.k,bg bh e.op,bi e.nm,bg bh e.v.k,bg bh e.v.n,bi e.v.s,bj A1 e.v.l.length c1,bj (some ad) e.ar.length T]) at ru;rw[h1] at ru;show Calls Tryz.prog 212 #[.agg (BC e A1 c1 (some ad) e.ar.length T)] w _;rw[h1];clear h1;go_enter Tryz.func212,Tryz.ntmps212;go_upto_region 1 with (fail);obtain⟨W,hW⟩:=aH ((w.alloc (.cells (BC e A1 c1 (some ad) 1 T) 67 (0,0))));have q:EG w W:=by rw[hW];exact ((Below.refl _ w).alloc (bq _) _)
 have B0:ag W (w.heap.size) 67 (BC e A1 c1 (some ad) 1 T):=by
  rw[hW];have:=ag.new w 67 (BC e A1 c1 (some ad) 1 T);exact this
 have ao:W.heap.size=w.heap.size+1:=by rw[hW];simp
 rw[<- hW];obtain⟨iK,iL,iM,iQ,iR,iT,iU,iC⟩:=ag.c8 B0;have Ls:W.cell? ad=some (bg bh a.k):=Below.cell_of q qJ;have Lt:W.cell? ⟨ad.block,ad.off+1,none⟩=some (bg bh a.op):=Below.cell_of q rU;have Lu:W.cell? ⟨ad.block,ad.off+2,none⟩=some (bi a.nm):=Below.cell_of q x9;have LC:W.cell? ⟨ad.block,ad.off+3,none⟩=some (bg bh a.v.k):=Below.cell_of q AP;have LD:W.cell? ⟨ad.block,ad.off+4,none⟩=some (bg bh a.v.n):=Below.cell_of q AQ;have LG:W.cell? ⟨ad.block,ad.off+5,none⟩=some (bi a.v.s):=Below.cell_of q AU;have LH:W.cell? ⟨ad.block,ad.off+6,none⟩=some (bj A3 a.v.l.length Z):=Below.cell_of q AV;have LJ:W.cell? ⟨ad.block,ad.off+7,none⟩=some (bj Y a.ar.length X):=Below.cell_of q AZ;clear hW ao qJ rU x9 AP AQ AU AV AZ;have A:=qh (show ∀ w',EG W w'->Calls Tryz.prog 237 #[] w' λ en D=>∃ b o,en = bl (bj (some ⟨b,o,none⟩) 7 7)/\D.cell? ⟨b,o+e.op.toNat,none⟩=some (bi s)/\EG W D/\EG w' D from λ w' x =>
  (yu w').mono λ _ D ⟨ad,he,hs,C⟩=>by
   obtain⟨b,o,rfl,hc⟩:=abL hs ab.o.1 ab.o.2;exact⟨b,o,he,by rw[hc,FK.o],x.trans (C.mono x.size),C⟩)
 have z:=qh (show ∀ w',EG W w'->Calls Tryz.prog 212 #[.agg (BC a A3 Z Y a.ar.length X)] w' λ en D=>en = bl (bi t)/\EG W D/\EG w' D from λ w' x=>by
  have O:=q.trans (x.mono q.size);have h:=Qy.o B _ w' (tq.o.keep (O.mono hB)) (bp hB O.size) (o8.o w' O).1 (o8.o w' O).2;rw[jD.o] at h;exact h.mono λ _ _ ⟨he,C⟩=>⟨he,x.trans (C.mono x.size),C⟩)
 have c:=qh (show ∀ w',EG W w'->w'.cell? ⟨w.heap.size,1,none⟩=some (bg bh e.op)/\w'.cell? ⟨w.heap.size,2,none⟩=some (bi e.nm)/\w'.cell? ⟨w.heap.size,7,none⟩=some (bj (some ad) 1 T)/\w'.cell? ad=some (bg bh a.k)/\w'.cell? ⟨ad.block,ad.off+1,none⟩=some (bg bh a.op)/\w'.cell? ⟨ad.block,ad.off+2,none⟩=some (bi a.nm)/\w'.cell? ⟨ad.block,ad.off+3,none⟩=some (bg bh a.v.k)/\w'.cell? ⟨ad.block,ad.off+4,none⟩=some (bg bh a.v.n)/\w'.cell? ⟨ad.block,ad.off+5,none⟩=some (bi a.v.s)/\w'.cell? ⟨ad.block,ad.off+6,none⟩=some (bj A3 a.v.l.length Z)/\w'.cell? ⟨ad.block,ad.off+7,none⟩=some (bj Y a.ar.length X)/\EG W w' from λ w' x=>⟨Below.cell_of x iL,Below.cell_of x iM,Below.cell_of x iC,Below.cell_of x Ls,Below.cell_of x Lt,Below.cell_of x Lu,Below.cell_of x LC,Below.cell_of x LD,Below.cell_of x LG,Below.cell_of x LH,Below.cell_of x LJ,x⟩);have d:EG W W:=Below.refl _ _;clear B0;go_upto_region 9 with (fail);refine wp_region_noPanic ?_;refine wp_region_held_drew (S:=(λ w'=>w'.cell? ⟨w.heap.size,1,none⟩=some (bg bh e.op)/\w'.cell? ⟨w.heap.size,2,none⟩=some (bi e.nm)/\w'.cell? ⟨w.heap.size,7,none⟩=some (bj (some ad) 1 T)/\w'.cell? ad=some (bg bh a.k)/\w'.cell? ⟨ad.block,ad.off+1,none⟩=some (bg bh a.op)/\w'.cell? ⟨ad.block,ad.off+2,none⟩=some (bi a.nm)/\w'.cell? ⟨ad.block,ad.off+3,none⟩=some (bg bh a.v.k)/\w'.cell? ⟨ad.block,ad.off+4,none⟩=some (bg bh a.v.n)/\w'.cell? ⟨ad.block,ad.off+5,none⟩=some (bi a.v.s)/\w'.cell? ⟨ad.block,ad.off+6,none⟩=some (bj A3 a.v.l.length Z)/\w'.cell? ⟨ad.block,ad.off+7,none⟩=some (bj Y a.ar.length X)/\EG W w')) (by kernel_rfl) ?_ (λ f=>?_)
 . ((try dsimp only);(first | exact c.o _ d.drew | exact c.o _ d | exact c.o _ n | exact c.o _ m | exact c.o _ g))
 refine wpAnyH_take (i:=1) (v:=?v1) rfl (by kernel_rfl) (by kernel_rfl) (by kernel_rfl) (λ _ _ _ h=>h) (bo ⟨by rfl,?y1⟩) (by assumption) ?r1
 case y1=>(intro w p;(try dsimp only at p);go_simp;try with_reducible rfl)
 refine wpAnyH_take (i:=2) (v:=?v2) rfl (by kernel_rfl) (by kernel_rfl) (by kernel_rfl) (λ _ _ _ h=>h) (bo ⟨by rfl,?y2⟩) (by assumption) ?r2
 case y2=>(intro w p;(try dsimp only at p);go_simp;try with_reducible rfl)
 refine wpAnyH_take (i:=6) (v:=?v3) rfl (by kernel_rfl) (by kernel_rfl) (by kernel_rfl) (λ _ _ _ h=>h) (bo ⟨by rfl,?y3⟩) (by assumption) ?r3
 case y3=>(intro w p;(try dsimp only at p);go_simp;try with_reducible rfl)
 refine wpAnyH_take (i:=7) (v:=?v4) rfl (by kernel_rfl) (by kernel_rfl) (by kernel_rfl) (λ _ _ _ h=>h) (bo ⟨by rfl,?y4⟩) (by assumption) ?r4
 case y4=>(intro w p;(try dsimp only at p);go_simp;try with_reducible rfl)
 refine wpAnyH_take (i:=10) (v:=?v5) rfl (by kernel_rfl) (by kernel_rfl) (by kernel_rfl) (λ _ _ _ h=>h) (bo ⟨by rfl,?y5⟩) (by assumption) ?r5
 case y5=>(intro w p;(try dsimp only at p);go_simp;try with_reducible rfl)
 refine wpAnyH_take (i:=11) (v:=?v6) rfl (by kernel_rfl) (by kernel_rfl) (by kernel_rfl) (λ _ _ _ h=>h) (bo ⟨by rfl,?y6⟩) (by assumption) ?r6
 case y6=>(intro w p;(try dsimp only at p);go_simp;try with_reducible rfl)
 refine wpAnyH_take (i:=12) (v:=?v7) rfl (by kernel_rfl) (by kernel_rfl) (by kernel_rfl) (λ _ _ _ h=>h) (bo ⟨by rfl,?y7⟩) (by assumption) ?r7
 case y7=>(intro w p;(try dsimp only at p);go_simp;try with_reducible rfl)
 refine wpAnyH_take (i:=13) (v:=?v8) rfl (by kernel_rfl) (by kernel_rfl) (by kernel_rfl) (λ _ _ _ h=>h) (bo ⟨by rfl,?y8⟩) (by assumption) ?r8
 case y8=>(intro w p;(try dsimp only at p);go_simp;try with_reducible rfl)
 refine wpAnyH_ready (rs:=[0]) (by kernel_rfl) (by simp) ?_;refine bm rfl (λ K k=>?_) ?_
 .go_simp
  (first | (go_at_call 237;(with_reducible refine (A.o _ d.drew).mono ?_);rintro I H ⟨b,o,rfl,r,n,G⟩) | (go_at_call 237;(with_reducible refine (A.o _ m).mono ?_);rintro I H ⟨b,o,rfl,r,g,G⟩) | (go_at_call 212;(with_reducible refine (z.o _ d.drew).mono ?_);rintro e3 F ⟨rfl,m,y⟩) | (go_at_call 212;(with_reducible refine (z.o _ n).mono ?_);rintro e3 F ⟨rfl,g,y⟩;have Yn:=Below.cell_of y r))
  try go_wp2_with fail
  refine k.out _ _ ?_ (λ f=>?_)
  . ((try dsimp only);(first | exact c.o _ d.drew | exact c.o _ d | exact c.o _ n | exact c.o _ m | exact c.o _ g))
  clear k K;refine wpAnyH_take (i:=3) (v:=?v9) rfl (by kernel_rfl) (by kernel_rfl) (by kernel_rfl) (λ _ _ _ h=>h) (bo ⟨by rfl,?y9⟩) (by assumption) ?r9
  case y9=>(intro w p;(try dsimp only at p);go_simp;try with_reducible rfl)
  refine wpAnyH_ready (rs:=[4,14]) (by kernel_rfl) (by simp) ?_;refine bm rfl (λ K k=>?_) ?_
  .go_simp
   try go_wp2_with fail
   refine k.out _ _ ?_ (λ f=>?_)
   . ((try dsimp only);(first | exact c.o _ d.drew | exact c.o _ d | exact c.o _ n | exact c.o _ m | exact c.o _ g))
   clear k K;refine wpAnyH_ready (rs:=[5,14]) (by kernel_rfl) (by simp) ?_;refine bm rfl (λ K k=>?_) ?_
   .go_simp
    try go_wp2_with fail
    refine k.out _ _ ?_ (λ f=>?_)
    . ((try dsimp only);(first | exact c.o _ d.drew | exact c.o _ d | exact c.o _ n | exact c.o _ m | exact c.o _ g))
    clear k K;refine wpAnyH_ready (rs:=[8,14]) (by kernel_rfl) (by simp) ?_;refine bm rfl (λ K k=>?_) ?_
    .go_simp
     try go_wp2_with fail
     refine k.out _ _ ?_ (λ f=>?_)
     . ((try dsimp only);(first | exact c.o _ d.drew | exact c.o _ d | exact c.o _ n | exact c.o _ m | exact c.o _ g))
     clear k K;refine wpAnyH_ready (rs:=[9,14]) (by kernel_rfl) (by simp) ?_;refine bm rfl (λ K k=>?_) ?_
     .go_simp
      try go_wp2_with fail
      refine k.out _ _ ?_ (λ f=>?_)
      . ((try dsimp only);(first | exact c.o _ d.drew | exact c.o _ d | exact c.o _ n | exact c.o _ m | exact c.o _ g))
      clear k K;refine wpAnyH_ready (rs:=[14]) (by kernel_rfl) (by simp) ?_;refine bm rfl (λ K k=>?_) ?_
      .go_simp
       (first | (go_at_call 237;(with_reducible refine (A.o _ d.drew).mono ?_);rintro I H ⟨b,o,rfl,r,n,G⟩) | (go_at_call 237;(with_reducible refine (A.o _ m).mono ?_);rintro I H ⟨b,o,rfl,r,g,G⟩) | (go_at_call 212;(with_reducible refine (z.o _ d.drew).mono ?_);rintro e3 F ⟨rfl,m,y⟩) | (go_at_call 212;(with_reducible refine (z.o _ n).mono ?_);rintro e3 F ⟨rfl,g,y⟩;have Yn:=Below.cell_of y r))
       try go_wp2_with fail
       refine k.out _ _ ?_ (λ f=>?_)
       . ((try dsimp only);(first | exact c.o _ d.drew | exact c.o _ d | exact c.o _ n | exact c.o _ m | exact c.o _ g))
       clear k K;refine wpAnyH_ready (rs:=[15]) (by kernel_rfl) (by simp) ?_;refine bm rfl (λ K k=>?_) ?_
       .go_simp
        try go_wp2_with fail
        refine k.out _ _ ?_ (λ f=>?_)
        . ((try dsimp only);(first | exact c.o _ d.drew | exact c.o _ d | exact c.o _ n | exact c.o _ m | exact c.o _ g))
        clear k K;refine wpAnyH_ready (rs:=[16]) (by kernel_rfl) (by simp) ?_;refine bm rfl (λ K k=>?_) ?_
        .go_simp
         try go_wp2_with fail
         refine k.out _ _ ?_ (λ f=>?_)
         . ((try dsimp only);(first | exact c.o _ d.drew | exact c.o _ d | exact c.o _ n | exact c.o _ m | exact c.o _ g))
         clear k K;refine wpAnyH_take (i:=17) (v:=?v10) rfl (by kernel_rfl) (by kernel_rfl) (by kernel_rfl) (λ _ _ _ h=>h) (bo ⟨by rfl,?y10⟩) (by assumption) ?r10
         case y10=>(intro w p;(try dsimp only at p);go_simp;try with_reducible rfl)
         refine wpAnyH_done (by kernel_rfl) ?_ _;refine bs ?_;have N:=q.trans (g.mono q.size);clear c A z;go_wp2_with fail;go_ret;exact⟨by rw[HR.o];try rfl,N⟩
        exact bn
       exact bn
      exact bn
     refine bm rfl (λ K k=>?_) ?_
     .go_simp
      (first | (go_at_call 237;(with_reducible refine (A.o _ d.drew).mono ?_);rintro I H ⟨b,o,rfl,r,n,G⟩) | (go_at_call 237;(with_reducible refine (A.o _ m).mono ?_);rintro I H ⟨b,o,rfl,r,g,G⟩) | (go_at_call 212;(with_reducible refine (z.o _ d.drew).mono ?_);rintro e3 F ⟨rfl,m,y⟩) | (go_at_call 212;(with_reducible refine (z.o _ n).mono ?_);rintro e3 F ⟨rfl,g,y⟩;have Yn:=Below.cell_of y r))
      try go_wp2_with fail
      refine k.out _ _ ?_ (λ f=>?_)
      . ((try dsimp only);(first | exact c.o _ d.drew | exact c.o _ d | exact c.o _ n | exact c.o _ m | exact c.o _ g))
      clear k K;refine wpAnyH_ready (rs:=[9]) (by kernel_rfl) (by simp) ?_;refine bm rfl (λ K k=>?_) ?_
      .go_simp
       try go_wp2_with fail
       refine k.out _ _ ?_ (λ f=>?_)
       . ((try dsimp only);(first | exact c.o _ d.drew | exact c.o _ d | exact c.o _ n | exact c.o _ m | exact c.o _ g))
       clear k K;refine wpAnyH_ready (rs:=[15]) (by kernel_rfl) (by simp) ?_;refine bm rfl (λ K k=>?_) ?_
       .go_simp
        try go_wp2_with fail
        refine k.out _ _ ?_ (λ f=>?_)
        . ((try dsimp only);(first | exact c.o _ d.drew | exact c.o _ d | exact c.o _ n | exact c.o _ m | exact c.o _ g))
        clear k K;refine wpAnyH_ready (rs:=[16]) (by kernel_rfl) (by simp) ?_;refine bm rfl (λ K k=>?_) ?_
        .go_simp
         try go_wp2_with fail
         refine k.out _ _ ?_ (λ f=>?_)
         . ((try dsimp only);(first | exact c.o _ d.drew | exact c.o _ d | exact c.o _ n | exact c.o _ m | exact c.o _ g))
         clear k K;refine wpAnyH_take (i:=17) (v:=?v11) rfl (by kernel_rfl) (by kernel_rfl) (by kernel_rfl) (λ _ _ _ h=>h) (bo ⟨by rfl,?y11⟩) (by assumption) ?r11
         case y11=>(intro w p;(try dsimp only at p);go_simp;try with_reducible rfl)
         refine wpAnyH_done (by kernel_rfl) ?_ _;refine bs ?_;have N:=q.trans (g.mono q.size);clear c A z;go_wp2_with fail;go_ret;exact⟨by rw[HR.o];try rfl,N⟩
        exact bn
       exact bn
      exact bn
     exact bn
    refine bm rfl (λ K k=>?_) ?_
    .go_simp
     (first | (go_at_call 237;(with_reducible refine (A.o _ d.drew).mono ?_);rintro I H ⟨b,o,rfl,r,n,G⟩) | (go_at_call 237;(with_reducible refine (A.o _ m).mono ?_);rintro I H ⟨b,o,rfl,r,g,G⟩) | (go_at_call 212;(with_reducible refine (z.o _ d.drew).mono ?_);rintro e3 F ⟨rfl,m,y⟩) | (go_at_call 212;(with_reducible refine (z.o _ n).mono ?_);rintro e3 F ⟨rfl,g,y⟩;have Yn:=Below.cell_of y r))
     try go_wp2_with fail
     refine k.out _ _ ?_ (λ f=>?_)
     . ((try dsimp only);(first | exact c.o _ d.drew | exact c.o _ d | exact c.o _ n | exact c.o _ m | exact c.o _ g))
     clear k K;refine wpAnyH_ready (rs:=[8]) (by kernel_rfl) (by simp) ?_;refine bm rfl (λ K k=>?_) ?_
     .go_simp
      try go_wp2_with fail
      refine k.out _ _ ?_ (λ f=>?_)
      . ((try dsimp only);(first | exact c.o _ d.drew | exact c.o _ d | exact c.o _ n | exact c.o _ m | exact c.o _ g))
      clear k K;refine wpAnyH_ready (rs:=[9]) (by kernel_rfl) (by simp) ?_;refine bm rfl (λ K k=>?_) ?_
      .go_simp
       try go_wp2_with fail
       refine k.out _ _ ?_ (λ f=>?_)
       . ((try dsimp only);(first | exact c.o _ d.drew | exact c.o _ d | exact c.o _ n | exact c.o _ m | exact c.o _ g))
       clear k K;refine wpAnyH_ready (rs:=[15]) (by kernel_rfl) (by simp) ?_;refine bm rfl (λ K k=>?_) ?_
       .go_simp
        try go_wp2_with fail
        refine k.out _ _ ?_ (λ f=>?_)
        . ((try dsimp only);(first | exact c.o _ d.drew | exact c.o _ d | exact c.o _ n | exact c.o _ m | exact c.o _ g))
        clear k K;refine wpAnyH_ready (rs:=[16]) (by kernel_rfl) (by simp) ?_;refine bm rfl (λ K k=>?_) ?_
        .go_simp
         try go_wp2_with fail
         refine k.out _ _ ?_ (λ f=>?_)
         . ((try dsimp only);(first | exact c.o _ d.drew | exact c.o _ d | exact c.o _ n | exact c.o _ m | exact c.o _ g))
         clear k K;refine wpAnyH_take (i:=17) (v:=?v12) rfl (by kernel_rfl) (by kernel_rfl) (by kernel_rfl) (λ _ _ _ h=>h) (bo ⟨by rfl,?y12⟩) (by assumption) ?r12
         case y12=>(intro w p;(try dsimp only at p);go_simp;try with_reducible rfl)
         refine wpAnyH_done (by kernel_rfl) ?_ _;refine bs ?_;have N:=q.trans (g.mono q.size);clear c A z;go_wp2_with fail;go_ret;exact⟨by rw[HR.o];try rfl,N⟩
        exact bn
       exact bn
      exact bn
     exact bn
    exact bn
   refine bm rfl (λ K k=>?_) ?_
   .go_simp
    (first | (go_at_call 237;(with_reducible refine (A.o _ d.drew).mono ?_);rintro I H ⟨b,o,rfl,r,n,G⟩) | (go_at_call 237;(with_reducible refine (A.o _ m).mono ?_);rintro I H ⟨b,o,rfl,r,g,G⟩) | (go_at_call 212;(with_reducible refine (z.o _ d.drew).mono ?_);rintro e3 F ⟨rfl,m,y⟩) | (go_at_call 212;(with_reducible refine (z.o _ n).mono ?_);rintro e3 F ⟨rfl,g,y⟩;have Yn:=Below.cell_of y r))
    try go_wp2_with fail
    refine k.out _ _ ?_ (λ f=>?_)
    . ((try dsimp only);(first | exact c.o _ d.drew | exact c.o _ d | exact c.o _ n | exact c.o _ m | exact c.o _ g))
    clear k K;refine wpAnyH_ready (rs:=[5]) (by kernel_rfl) (by simp) ?_;refine bm rfl (λ K k=>?_) ?_
    .go_simp
     try go_wp2_with fail
     refine k.out _ _ ?_ (λ f=>?_)
     . ((try dsimp only);(first | exact c.o _ d.drew | exact c.o _ d | exact c.o _ n | exact c.o _ m | exact c.o _ g))
     clear k K;refine wpAnyH_ready (rs:=[8]) (by kernel_rfl) (by simp) ?_;refine bm rfl (λ K k=>?_) ?_
     .go_simp
      try go_wp2_with fail
      refine k.out _ _ ?_ (λ f=>?_)
      . ((try dsimp only);(first | exact c.o _ d.drew | exact c.o _ d | exact c.o _ n | exact c.o _ m | exact c.o _ g))
      clear k K;refine wpAnyH_ready (rs:=[9]) (by kernel_rfl) (by simp) ?_;refine bm rfl (λ K k=>?_) ?_
      .go_simp
       try go_wp2_with fail
       refine k.out _ _ ?_ (λ f=>?_)
       . ((try dsimp only);(first | exact c.o _ d.drew | exact c.o _ d | exact c.o _ n | exact c.o _ m | exact c.o _ g))
       clear k K;refine wpAnyH_ready (rs:=[15]) (by kernel_rfl) (by simp) ?_;refine bm rfl (λ K k=>?_) ?_
       .go_simp
        try go_wp2_with fail
        refine k.out _ _ ?_ (λ f=>?_)
        . ((try dsimp only);(first | exact c.o _ d.drew | exact c.o _ d | exact c.o _ n | exact c.o _ m | exact c.o _ g))
        clear k K;refine wpAnyH_ready (rs:=[16]) (by kernel_rfl) (by simp) ?_;refine bm rfl (λ K k=>?_) ?_
        .go_simp
         try go_wp2_with fail
         refine k.out _ _ ?_ (λ f=>?_)
         . ((try dsimp only);(first | exact c.o _ d.drew | exact c.o _ d | exact c.o _ n | exact c.o _ m | exact c.o _ g))
         clear k K;refine wpAnyH_take (i:=17) (v:=?v13) rfl (by kernel_rfl) (by kernel_rfl) (by kernel_rfl) (λ _ _ _ h=>h) (bo ⟨by rfl,?y13⟩) (by assumption) ?r13
         case y13=>(intro w p;(try dsimp only at p);go_simp;try with_reducible rfl)
         refine wpAnyH_done (by kernel_rfl) ?_ _;refine bs ?_;have N:=q.trans (g.mono q.size);clear c A z;go_wp2_with fail;go_ret;exact⟨by rw[HR.o];try rfl,N⟩
        exact bn
       exact bn
      exact bn
     exact bn
    exact bn
   exact bn
  refine bm rfl (λ K k=>?_) ?_
  .go_simp
   (first | (go_at_call 237;(with_reducible refine (A.o _ d.drew).mono ?_);rintro I H ⟨b,o,rfl,r,n,G⟩) | (go_at_call 237;(with_reducible refine (A.o _ m).mono ?_);rintro I H ⟨b,o,rfl,r,g,G⟩) | (go_at_call 212;(with_reducible refine (z.o _ d.drew).mono ?_);rintro e3 F ⟨rfl,m,y⟩) | (go_at_call 212;(with_reducible refine (z.o _ n).mono ?_);rintro e3 F ⟨rfl,g,y⟩;have Yn:=Below.cell_of y r))
   try go_wp2_with fail
   refine k.out _ _ ?_ (λ f=>?_)
   . ((try dsimp only);(first | exact c.o _ d.drew | exact c.o _ d | exact c.o _ n | exact c.o _ m | exact c.o _ g))
   clear k K;refine wpAnyH_ready (rs:=[4]) (by kernel_rfl) (by simp) ?_;refine bm rfl (λ K k=>?_) ?_
   .go_simp
    try go_wp2_with fail
    refine k.out _ _ ?_ (λ f=>?_)
    . ((try dsimp only);(first | exact c.o _ d.drew | exact c.o _ d | exact c.o _ n | exact c.o _ m | exact c.o _ g))
    clear k K;refine wpAnyH_ready (rs:=[5]) (by kernel_rfl) (by simp) ?_;refine bm rfl (λ K k=>?_) ?_
    .go_simp
     try go_wp2_with fail
     refine k.out _ _ ?_ (λ f=>?_)
     . ((try dsimp only);(first | exact c.o _ d.drew | exact c.o _ d | exact c.o _ n | exact c.o _ m | exact c.o _ g))
     clear k K;refine wpAnyH_ready (rs:=[8]) (by kernel_rfl) (by simp) ?_;refine bm rfl (λ K k=>?_) ?_
     .go_simp
      try go_wp2_with fail
      refine k.out _ _ ?_ (λ f=>?_)
      . ((try dsimp only);(first | exact c.o _ d.drew | exact c.o _ d | exact c.o _ n | exact c.o _ m | exact c.o _ g))
      clear k K;refine wpAnyH_ready (rs:=[9]) (by kernel_rfl) (by simp) ?_;refine bm rfl (λ K k=>?_) ?_
      .go_simp
       try go_wp2_with fail
       refine k.out _ _ ?_ (λ f=>?_)
       . ((try dsimp only);(first | exact c.o _ d.drew | exact c.o _ d | exact c.o _ n | exact c.o _ m | exact c.o _ g))
       clear k K;refine wpAnyH_ready (rs:=[15]) (by kernel_rfl) (by simp) ?_;refine bm rfl (λ K k=>?_) ?_
       .go_simp
        try go_wp2_with fail
        refine k.out _ _ ?_ (λ f=>?_)
        . ((try dsimp only);(first | exact c.o _ d.drew | exact c.o _ d | exact c.o _ n | exact c.o _ m | exact c.o _ g))
        clear k K;refine wpAnyH_ready (rs:=[16]) (by kernel_rfl) (by simp) ?_;refine bm rfl (λ K k=>?_) ?_
        .go_simp
         try go_wp2_with fail
         refine k.out _ _ ?_ (λ f=>?_)
         . ((try dsimp only);(first | exact c.o _ d.drew | exact c.o _ d | exact c.o _ n | exact c.o _ m | exact c.o _ g))
         clear k K;refine wpAnyH_take (i:=17) (v:=?v14) rfl (by kernel_rfl) (by kernel_rfl) (by kernel_rfl) (λ _ _ _ h=>h) (bo ⟨by rfl,?y14⟩) (by assumption) ?r14
         case y14=>(intro w p;(try dsimp only at p);go_simp;try with_reducible rfl)
         refine wpAnyH_done (by kernel_rfl) ?_ _;refine bs ?_;have N:=q.trans (g.mono q.size);clear c A z;go_wp2_with fail;go_ret;exact⟨by rw[HR.o];try rfl,N⟩
        exact bn
       exact bn
      exact bn
     exact bn
    exact bn
   exact bn
  exact bn
 exact bn
theorem Yo (e:Ex):e.fault=0->e.parts<=900000->fD 212 e:=by
 induction e using Ex.ind with
 | h e ih =>
  intro q t B cs w g i b j;have s:=parts_eq e;have k:∀ a∈e.ar,fD 212 a:=λ a o=>ih a o (xq q a o) (by have:=yD o;omega);have p:∀ a∈e.ar,a.text.length+100<=1000*a.parts:=λ a o=>SV a (xq q a o);have m:∀ a∈e.ar,a.text.length<=1000000000:=λ a o=>by have:=p a o;have:=yD o;omega
  have f:∀ l,((insL l e.ar).map bw).sum+98*e.ar.length<=999999000:=λ l=>by have:=(ry l p).1;omega
  have c:e.ar.length<=999999:=by have:=Be e.ar;omega
  have d:=tH q;have P:=lQ d;have u:=P.k;by_cases k1:e.k=1
  .exact ad6 e k1 k m f c d B cs w g i b j
  by_cases k2:e.k=2
  .exact ad7 e k2 k m f c d B cs w g i b j
  by_cases k3:e.k=3
  .exact ad8 e k3 k m f c d B cs w g i b j
  by_cases k5:e.k=5
  .exact U4 e k5 k m f c d B cs w g i b j
  have n:e.k=4:=by omega
  have r:=P.op4 n;by_cases o1:e.op=1
  .exact Yk e n o1 k m f c d B cs w g i b j
  by_cases o2:e.op=2
  .exact Yh e n o2 k m f c d B cs w g i b j
  by_cases o3:e.op=3
  .exact abK e n o3 k m f c d B cs w g i b j
  by_cases o4:4<=e.op/\e.op<=11
  .exact Yi e n o4 k m f c d B cs w g i b j
  by_cases o5:e.op=15\/e.op=16
  .exact Yj e n o5 k m f c d B cs w g i b j
  by_cases o6:e.op=17\/e.op=18\/e.op=19
  .exact U3 e n o6 k m f c d B cs w g i b j
  by_cases o7:e.op=20
  .exact Yl e n o7 k m f c d B cs w g i b j
  exact Ym e n (by omega) k m f c d B cs w g i b j
noncomputable def yP (e:Ex):List UInt8 × Int:=if dZ e≠0 then ([],dZ e) else if 4000<e.text.length then ([],2) else (e.text,0)
theorem NZ {e:Ex} (h:dZ e=0):e.fault=0/\e.parts<=300:=by
 unfold dZ at h;by_cases c:300<e.parts\/20<e.depth
 .rw[if_pos c] at h;exact absurd h (by decide)
 .rw[if_neg c] at h;exact⟨h,by omega⟩
theorem U5 (e:Ex) (B:Nat) (cs:List Value) (w:World) (H:aQ w B e cs) (J:B<=w.heap.size) (G:e.parts<=100000000) (j:Tab w) (U:Mx w) :
  CS 175 #[.agg cs.toArray] w (.tuple #[bi (tx (yP e).1),bg bh (yP e).2]):=by
 have Z:=qh H;have Q:=qh (λ w' (d:EG w w')=>br (aF j d) (U.below d));obtain⟨R,y⟩:=af (yP e);obtain⟨R1,R2⟩:=R;rw[y];obtain⟨hn,hs,hl,ha,H,X,V⟩:=H;rename_i o m l q cs;have L:=qh (λ w' (d:EG w w')=>Z.o.keep (d.mono J));have S:=qh G;clear H X V j U G;obtain⟨f,i⟩:=af (dZ e);show Calls Tryz.prog 175 #[.agg (BC e o m l e.ar.length q)] w _;by_cases f0:f=0;rotate_left
 .have bf:(f != 0)=true:=by simpa using f0
  have I:=qh (show ([],f)=(R1,R2) by rw[<- y];unfold yP;rw[if_pos (by rw[i];exact f0),i]);have N:=qh i;clear y i f0;go_enter Tryz.func175,Tryz.ntmps175;go_upto_region 1 with (fail);obtain⟨W,b⟩:=aH ((w.alloc (.cells (BC e o m l e.ar.length q) 67 (0,0))));have a:EG w W:=by rw[b];exact ((Below.refl _ w).alloc (bq _) _)
  have B0:ag W (w.heap.size) 67 (BC e o m l e.ar.length q):=by
   rw[b];have:=ag.new w 67 (BC e o m l e.ar.length q);exact this
  have p:W.heap.size=w.heap.size+1:=by rw[b];simp
  rw[<- b];obtain⟨s,C,A,z,E,u,D,v⟩:=ag.c8 B0;clear b p B0;go_wp2_with fail;refine (nY e B _ W (L.o W a) (bp J a.size) S.o).mono ?_;rw[N.o];rintro K W2 ⟨rfl,k⟩;clear s C A z E u D v;go_wp2_with fail;go_ret2;exact⟨by have h:=I.o;injection h with h1 h2;rw[<- h1,<- h2];rfl,a.trans (k.mono a.size)⟩
 subst f0;obtain⟨O,G⟩:=NZ i;have P:=SV e O;obtain⟨t,g⟩:=af (tx e.text);have F:t.size=e.text.length:=by rw[<- g,lK]
 have T:=qh (λ w' (d:EG w w')=>Yo e O (by omega) B _ w' (L.o w' d) (bp J d.size) (Q.o w' d).1 (Q.o w' d).2);simp only[g] at T;have I:=qh (show (if 4000<t.size then (([]:List UInt8),(2:Int)) else (e.text,0))=(R1,R2) by rw[<- y,F];unfold yP;rw[if_neg (show ¬ dZ e≠0 by rw[i];decide)]);have jD:=qh g;have N:=qh i;have st:t.size<=300000:=by omega
 clear y i g F P O G;go_enter Tryz.func175,Tryz.ntmps175;go_upto_region 1 with (fail);obtain⟨W,b⟩:=aH ((w.alloc (.cells (BC e o m l e.ar.length q) 67 (0,0))));have a:EG w W:=by rw[b];exact ((Below.refl _ w).alloc (bq _) _)
 have B0:ag W (w.heap.size) 67 (BC e o m l e.ar.length q):=by
  rw[b];have:=ag.new w 67 (BC e o m l e.ar.length q);exact this
 have p:W.heap.size=w.heap.size+1:=by rw[b];simp
 rw[<- b];obtain⟨s,C,A,z,E,u,D,v⟩:=ag.c8 B0;clear b p;go_wp2_with fail;refine (nY e B _ W (L.o W a) (bp J a.size) S.o).mono ?_;rw[N.o];rintro K Y ⟨rfl,n⟩;have M:=a.trans (n.mono a.size);have B0:=B0.below n B0.lt;clear s C A z E u D v n;obtain⟨s,C,A,z,E,u,D,v⟩:=ag.c8 B0;clear B0;go_wp2_with fail;refine (T.o Y M).mono ?_;rintro K W2 ⟨rfl,k⟩;clear s C A z E u D v;have x:=M.trans (k.mono M.size);by_cases c:4000<t.size
 .have c':(4000:Int)<(t.size:Nat):=by omega
  have r:=qh (show (([]:List UInt8),(2:Int))=(R1,R2) by rw[<- I.o,if_pos c]);clear c;go_wp2_with fail;go_ret2;exact⟨by have h:=r.o;injection h with h1 h2;rw[<- h1,<- h2];rfl,x⟩
 .have c':¬ (4000:Int)<(t.size:Nat):=by omega
  have r:=qh (show (e.text,(0:Int))=(R1,R2) by rw[<- I.o,if_neg c]);clear c;go_wp2_with fail;go_ret2;exact⟨by have h:=r.o;injection h with h1 h2;rw[<- h1,<- h2,jD.o];try rfl,x⟩
end Go.Proofs.YtcnagconagpkcaaGreatDoor
namespace Go.Proofs.YtcnagconagpkcaaGreatDoor
open Go.RowKit
theorem DV {P:Program} {w:World} {base n size:Nat} {t ty e:TypeId} {i:TypeInfo} {v:Value} {l:List Value} (f:P.underlying t=some (.slice e)) (d:P.info? e=some i) (_:i.size=size) (b:w.ownsRow base e size v n l) :
  (Builtin.append_ #[t,t] ty #[v,bj none 0 0]).run P w = .ok v w:=by
 rcases b.2 with ⟨rfl,rfl⟩ | ⟨g,cap,h,rfl,k,p,a,m,j,c⟩
 .simp[Builtin.append_,run_underlying f,sizeOf,typeInfo,d,Builtin.lenOf,Builtin.firstCells]
 .have o:n+0<=cap:=a;simp[Builtin.append_,run_underlying f,sizeOf,typeInfo,d,Builtin.lenOf,Builtin.firstCells,loadCells,a,storeCells]
theorem yQ {P:Program} {w:World} {d:Array Oper} {b:List Oper} {o:Oper} {a:Act} {Q:Exit->Act->World->Prop} (g:o.guard=none) (s x:Operand) (t:TypeId)
  (l:o.op = .call { callee:=.builtin .append,args:=#[s,x],argTypes:=#[t,t] })
  (base:Nat) (e:TypeId) (i:TypeInfo) (size:Nat) (u:P.underlying t=some (.slice e)) (j:P.info? e=some i) (c:i.size=size)
  (v:Value) (n:Nat) (r:List Value) (q:a.eval s=v) (f:w.ownsRow base e size v n r) (p:a.eval x = bj none 0 0)
  (h:wpList P d Q b (a.put o.dst v) w):wpList P d Q (o :: b) a w:=by
 refine wpList_plain g λ _ m=>?_;have k:=DV (P:=P) (w:=w) (ty:=o.type) u j c f;unfold Oper.wp execOp;simp only[l,resolve,invoke,builtin,Sem.run_bind,Sem.run_pure,Result.andThen_ok,List.map_toArray,List.map_cons,List.map_nil,q,p,k];exact m _ _ h
end Go.Proofs.YtcnagconagpkcaaGreatDoor
namespace Go.Proofs.YtcnagconagpkcaaGreatDoor
open Go.RowKit
attribute [local go_sem ↓] Go.wp_at_zero Go.wp_at_succ
attribute [local go_sem ↓] ld_item st_item ld_node st_node ld_ans st_ans ld_part st_part ld_rule st_rule ld_form st_form
set_option maxHeartbeats 4000000
set_option maxRecDepth 100000
theorem U6 {w:World} {B0 j H r u:Nat} {x:ku} {f:aG} {N:List ah} {K:aV} (h:aJ w B0 j H r u x f N K) {m k l n i:Nat} (o:eH N) (c:w.cell? ⟨m,0,none⟩=some (bk (some ⟨j,0,none⟩))) (b:w.cell? ⟨k,0,none⟩=some (bk (some ⟨m,0,none⟩))) (d:w.cell? ⟨l,0,none⟩=some (bg bh n)) (s:n<N.length) (y:i<N.length) :
  CS 177 (#[bg bh i] ++ #[bk (some ⟨k,0,none⟩),bk (some ⟨l,0,none⟩)]) w (.bool (jo N i n)):=by
 have q:=qh h;have t:=qh o;obtain⟨C,a⟩:=af (jo N i n);have p:=qh (Later.call (W:=w) (f:=174) (args:=#[bk (some ⟨j,0,none⟩),bg bh i,bg bh n]) (v:=.bool C) λ w' A=>(xG (q.o.keep A) t.o i n y s).mono λ _ _ ⟨z,G⟩=>⟨by rw[z,a],G⟩);have D:=Later.cell c;have B:=Later.cell b;have F:=Later.cell d;rw[a];clear h o c b d a;show Calls Tryz.prog 177 #[bg bh i,bk (some ⟨k,0,none⟩),bk (some ⟨l,0,none⟩)] w _;go_enter Tryz.func177,Tryz.ntmps177;go_upto_region 1 with (fail);refine aO (by kernel_rfl) (by kernel_rfl) ?_
 repeat (go_big_quiet_step (first | (with_reducible exact p.o _)))
 refine wpQuiet_nil ?_;intro I g;have E:=jg g;clear g p D B F;go_wp2;go_ret;exact⟨rfl,E⟩
theorem aeb (e:Ex):XJ e=(yP e).2:=by
 unfold XJ yP;split
 .rfl
 .split <;> rfl
theorem Yp (e:Ex) (b:List aY) (a:List bP) (at_:List ByteArray):ac3 e b a at_=vT e b a at_:=rfl
theorem wL {w:World} {B n c size:Nat} {A:Option Addr} {e:TypeId} {a:List Value} (h:w.ownsRow B e size (bj A n c) n a):n<=c:=by
 rcases h.2 with ⟨i,-⟩ | ⟨j,f,b,d,-,-,g,-⟩
 .injection i with _ g h2;omega
 .injection d with _ h2 h3;omega
theorem Yq {w:World} {B0 j n a b:Nat} {x:ku} {f:aG} {N:List ah} {K:aV} (h:aJ w B0 j n a b x f N K):∀ d∈kF N,d.loops.length<=1048576:=by
 intro d l;obtain⟨y,m,rfl⟩:=List.mem_map.1 l;obtain⟨i,g,rfl⟩:=List.mem_iff_getElem.1 (List.mem_filter.1 m).1;obtain⟨ad,cs,e,p,⟨r,A,c,rfl,hit,k,q,-⟩,o⟩:=h.nodes.at_ g;show N[i].lo.length<=1048576;omega
theorem Qz {g a:World} {B:Nat} {v m:Value} {l more:List aY} {b c:List Value} (f:g.ownsRow B 51 3 v l.length b) (k:∀ i (h:i<l.length),Dn g B l[i] ((b.drop (i*3)).take 3)) (w:g.grownBy a v.ownBlock)
  (j:a.ownsRow B 51 3 m (l.length+more.length) (b ++ c)) (x:∀ i (h:i<more.length),oP a a.heap.size more[i] ((c.drop (i*3)).take 3)) (q:l.length+more.length<=maxLen) :
  ∃ d c4,m = bj d (l ++ more).length c4/\fJ a a.heap.size d (l ++ more)/\(l ++ more).length<=c4:=by
 obtain⟨d,c4,rfl⟩:=jT j;have t:b.length=l.length*3:=f.1;refine⟨d,c4,by rw[bt],⟨by rw[bt];exact q,b ++ c,?_,λ i o=>?_⟩,?_⟩
 .rw[bt];exact Reads.fM j
 .rw[bt] at o;by_cases hlt:i<l.length
  .rw[List.getElem_append_left hlt,List.drop_append_of_le_length (by omega),List.take_append_of_le_length (by rw[List.length_drop];omega)];exact (ik.grown (k i hlt) f w).at_
  .have e:(b ++ c).drop (i*3)=c.drop ((i - l.length)*3):=by
    rw[List.drop_append,bA (by omega),List.nil_append,t,<- Nat.sub_mul]
   rw[List.getElem_append_right (by omega),e];exact x (i - l.length) (by omega)
 .rw[bt];rcases j.2 with ⟨p,-⟩ | ⟨y,s,r,u,-,-,n,-⟩
  .injection p with _ f k;omega
  .injection u with _ f k;omega
theorem xJ {w:World} {B0 V m1 m2 m3:Nat} {x:ku} {f:aG} {N:List ah} {K:aV} (h:aJ w B0 V m1 m2 m3 x f N K) {r:Nat} (ab:w.cell? ⟨r,0,none⟩=some (bk (some ⟨V,0,none⟩))) (aA:r<w.heap.size) (hN:eH N) {more:List aY} {AM:Option Addr} {cm B n:Nat} {e:Ex} {cs:List Value} (ap:fJ w w.heap.size AM more) (a4:(AM=none/\cm=0/\more = [])\/(∃ m,more = [m])) (hx:aQ w B e cs) (hB:B<=w.heap.size) (hn:n<N.length)
  (hp:e.parts<=1000000) (aa:Tab w) (aZ:Mx w) :
  CS 120 #[bk (some ⟨r,0,none⟩),.agg cs.toArray,bg bh n,bj AM more.length cm] w (.tuple #[bg bh (bU N K n more e).1,bg bh (bU N K n more e).2]):=by
 have HX:=qh hx;have H:=qh (br h (br ab (br aA (br hN ap))));have bd:=hx;obtain⟨-,-,-,-,-,-,-⟩:=bd;rename_i G D E F cs;obtain⟨wb,C⟩:=aH (((w.alloc (.cells #[bk (some ⟨r,0,none⟩)] 153 (0,0))).alloc (.cells (BC e G D E e.ar.length F) 67 (0,0))).alloc (.cells #[bg bh n] 3 (0,0)));have s:EG w wb:=C▸(((Below.refl w.heap.size w).alloc (bq _) _).alloc (by simp) _).alloc (by simp;omega) _;have a8:ag wb w.heap.size 153 #[bk (some ⟨r,0,none⟩)]:=C▸((ag.new w _ _).alloc _).alloc _;have q:ag wb (w.heap.size+1) 67 (BC e G D E e.ar.length F):=by
  have:=((ag.new (w.alloc (.cells #[bk (some ⟨r,0,none⟩)] 153 (0,0))) 67 (BC e G D E e.ar.length F)).alloc (.cells #[bg bh n] 3 (0,0)));rw[C];simpa using this
 have a0:ag wb (w.heap.size+1+1) 3 #[bg bh n]:=by
  have:=(ag.new ((w.alloc (.cells #[bk (some ⟨r,0,none⟩)] 153 (0,0))).alloc (.cells (BC e G D E e.ar.length F) 67 (0,0))) 3 #[bg bh n]);rw[C];simpa using this
 have HS:=qh (show ∀ w',EG wb w'->w'.cell? ⟨r,0,none⟩=some (bk (some ⟨V,0,none⟩))/\w'.cell? ⟨w.heap.size,0,none⟩=some (bk (some ⟨r,0,none⟩))/\w'.cell? ⟨w.heap.size+1+1,0,none⟩=some (bg bh n)/\w'.cell? ⟨w.heap.size+1,0,none⟩=some (bg bh e.k)/\w'.cell? ⟨w.heap.size+1,1,none⟩=some (bg bh e.op)/\w'.cell? ⟨w.heap.size+1,2,none⟩=some (bi e.nm)/\w'.cell? ⟨w.heap.size+1,3,none⟩=some (bg bh e.v.k)/\w'.cell? ⟨w.heap.size+1,4,none⟩=some (bg bh e.v.n)/\w'.cell? ⟨w.heap.size+1,5,none⟩=some (bi e.v.s)/\w'.cell? ⟨w.heap.size+1,6,none⟩=some (bj G e.v.l.length D)/\w'.cell? ⟨w.heap.size+1,7,none⟩=some (bj E e.ar.length F) from λ w' b =>
  ⟨Below.cell_of (s.trans (b.mono s.size)) ab,Below.cell_of b (a8.cell 0),Below.cell_of b (a0.cell 0),Below.cell_of b (q.cell 0),Below.cell_of b (q.cell 1),Below.cell_of b (q.cell 2),Below.cell_of b (q.cell 3),Below.cell_of b (q.cell 4),Below.cell_of b (q.cell 5),Below.cell_of b (q.cell 6),Below.cell_of b (q.cell 7)⟩)
 have lg:=qh (show ∀ w',EG wb w'->aJ w' B0 V m1 m2 m3 x f N K/\r<w'.heap.size/\fJ w' w'.heap.size AM more/\aQ w' B e (az e G D E F)/\B<=w'.heap.size/\Tab w'/\Mx w' from λ w' b=>by
  have c:=s.trans (b.mono s.size);exact⟨H.o.1.keep c,bB aA c.size,au.Qe (λ _ _ h=>h.up c.size) (ap.keep c) c.size,HX.o.keep (c.mono hB),bp hB c.size,aF aa c,aZ.below c⟩)
 have z:=qh (bU.eq_def N K n more e);obtain⟨R,hR⟩:=af (bU N K n more e);rw[hR] at z ⊢;have H0:=lg.o wb (Below.refl _ _);have K1:=qh (show Calls Tryz.prog 175 #[.agg (BC e G D E e.ar.length F)] wb _ from U5 e B _ wb H0.2.2.2.1 H0.2.2.2.2.1 (by omega) H0.2.2.2.2.2.1 H0.2.2.2.2.2.2);rw[<- aeb] at K1;obtain⟨z1,S⟩:=af (XJ e);obtain⟨z2,P⟩:=af (E5 N e n more);have K2:=qh (show ∀ w',EG wb w'->Calls Tryz.prog 176 #[bk (some ⟨r,0,none⟩),.agg (BC e G D E e.ar.length F),bg bh n,bj AM more.length cm] w' λ en A=>en = bl (bg bh z2)/\EG w' A from λ w' b=>by
  have h:=lg.o w' b;rw[<- P];exact U1 h.1 (HS.o w' b).1 h.2.1 H.o.2.2.2.1 h.2.2.1 h.2.2.2.1 h.2.2.2.2.1 hn)
 rw[S] at K1 z;rw[P] at z;clear S P hR h ab aa aZ ap H0 hx;obtain⟨a1,a2,a3,iK,iL,iM,iQ,iR,iT,iU,iC⟩:=HS.o wb (Below.refl _ _);show Calls Tryz.prog 120 #[bk (some ⟨r,0,none⟩),.agg (BC e G D E e.ar.length F),bg bh n,bj AM more.length cm] w _;go_enter Tryz.func120,Tryz.ntmps120;go_upto_region 1 with (fail);rw[<- C];clear C;by_cases O:z1=0;rotate_left
 .have HE:=qh (z.o.trans (if_pos O));obtain⟨g0,a6⟩:=gp O;clear O;go_wp2_with (go_at_call 175;(with_reducible refine K1.o.mono ?_);rintro e1 w1 ⟨rfl,o⟩);go_ret2;exact⟨by rw[HE.o];rfl,s.trans (o.mono s.size)⟩
 have HG:=qh (z.o.trans (if_neg (λ h=>h O)));clear z;subst O;go_upto_region 4 with (go_at_call 175;(with_reducible refine K1.o.mono ?_);rintro e1 w1 ⟨rfl,o⟩);clear a1 a2 a3 iK iL iM iQ iR iT iU iC;obtain⟨a1,a2,a3,iK,iL,iM,iQ,iR,iT,iU,iC⟩:=HS.o w1 o;by_cases T:z2=0;rotate_left
 .have HE:=qh (HG.o.trans (if_pos T));obtain⟨g0,a6⟩:=gp T;clear T;go_wp2_with (go_at_call 176;(with_reducible refine (K2.o _ o).mono ?_);rintro e1 w2 ⟨rfl,l⟩);go_ret2;exact⟨by rw[HE.o];rfl,s.trans ((o.trans (l.mono o.size)).mono s.size)⟩
 have z:=qh (HG.o.trans (if_neg (λ h=>h T)));clear HG;subst T;go_upto_region 7 with (go_at_call 176;(with_reducible refine (K2.o _ o).mono ?_);rintro e1 w2 ⟨rfl,l⟩);have l:=o.trans (l.mono o.size);clear a1 a2 a3 iK iL iM iQ iR iT iU iC;obtain⟨a1,a2,a3,iK,iL,iM,iQ,iR,iT,iU,iC⟩:=HS.o w2 l;have aq:∀ (a:Array Value) (W:World),(callFunc 177 a).run Tryz.prog W = .ok (.enter 177 a) W:=λ a W=>by simp[callFunc,go_sem,Tryz.func177,Tryz.f177]
 have Z:=(lg.o w2 l).1;have K3:=qh (Ux Z 177 #[bk (some ⟨w.heap.size,0,none⟩),bk (some ⟨w.heap.size+1+1,0,none⟩)] aq (λ i=>jo N i n) (λ i w' hi b=>by
  have c:=l.trans (b.mono l.size);exact U6 (lg.o w' c).1 H.o.2.2.2.1 (HS.o w' c).1 (HS.o w' c).2.1 (HS.o w' c).2.2.1 hn hi))
 obtain⟨L,hL⟩:=af (E8 N K n);rw[show qi N K (λ i=>jo N i n) N.length=L from hL] at K3;have bf:L.length<=301:=by
  rw[<- hL];exact bp (Fg _) H.o.1.nodes.1
 rw[hL] at z;clear aq Z hL K2 K1;obtain⟨i0,aX,bc,S,P⟩:=info_parts Nw;have Q:=qh l;rcases a4 with ⟨rfl,rfl,rfl⟩ | ⟨m,rfl⟩
 case' inl =>
  rw[bE] at z;go_upto_region 8 with (first
   | (go_at_call 67;(with_reducible refine K3.o.mono ?_);rintro e3 w4 ⟨⟨v3,rfl,xs,d,J⟩,t⟩;obtain⟨A4,c4,rfl⟩:=jT d)
   | (at_builtin;refine yQ rfl _ _ 40 rfl w2.heap.size 51 i0 3 Tryz.underlying40 aX S _ L.length xs rfl d rfl ?_))
  have X:=qh (br (DN.cells ⟨xs,d,J⟩ (by unfold maxLen;omega)) (wL d));have k:=Q.o.trans (t.mono Q.o.size);clear d J t;obtain⟨M,Y⟩:=af (L);rw[Y] at z X;rw[Y];clear Y
 case' inr =>
  obtain⟨M,Y⟩:=af (L ++ [m]);rw[Y] at z;obtain⟨-,ys,hr,av⟩:=H.o.2.2.2.2;obtain⟨ad,rfl,-,aw⟩:=hr.2 (by simp);have bb:ys.length=3:=hr.1;have y:=av 0 (by simp);rw[bx,List.drop_zero,List.take_of_length_le (by omega)] at y;obtain⟨Am,ba,a7,-,-⟩:=y.ex;subst a7;have al:=qh (br y aw);clear hr av y aw bb;go_upto_region 8 with (first
   | (go_at_call 67;(with_reducible refine K3.o.mono ?_);rintro e3 w3 ⟨⟨v3,rfl,xs,d,J⟩,ao⟩;have t:=Q.o.trans (ao.mono Q.o.size))
   | (at_builtin;refine wpList_append_own _ rfl _ _ 40 rfl w2.heap.size 51 i0 (.agg #[.string ⟨#[]⟩,.int .i64 0,.slice none 0 0]) 3 48 Tryz.underlying40 aX bc S P rfl (by decide) _ _ _ rfl d ad 1 cm [.string m.nm,.int .i64 m.kind,.slice Am m.loops.length ba] rfl rfl (λ j u hj=>Below.cell_of (s.trans (t.mono s.size)) (al.o.2 j u hj)) (by simp[Value.oneCell']) (by unfold maxLen;omega) (by omega) ao.size ?_;intro v4 w4 I ae _))
  have k:EG wb w4:=t.grown ae t.size (λ g hg=>bp Q.o.size (d.lt g hg).1);obtain⟨A4,c4,rfl,h4,ax⟩:=Qz (more:=[m]) d J ae I (λ i hi=>by
   obtain rfl:i=0:=by simpa using hi
   exact (al.o.1.keep (s.trans (k.mono s.size))).up (bp s.size k.size)) (by unfold maxLen;simp;omega)
  have X:=qh (br h4 ax);rw[Y] at X;rw[Y];clear h4 ax d J ae I t ao Y al
 all_goals
  have ar:=s.trans (k.mono s.size);have U:=lg.o w4 k;clear a1 a2 a3 iK iL iM iQ iR iT iU iC;obtain⟨a1,a2,a3,iK,iL,iM,iQ,iR,iT,iU,iC⟩:=HS.o w4 k;obtain⟨p,I1,j1,I2,j2,I3,j3,I4,j4,I5,j5,B1,b1,B2,b2,B3,b3,Ad,cd,hA,LM,-,am,hc⟩:=U.1.oW hn;have aM:w4.cell? ⟨(p.add (n*23)).block,(p.add (n*23)).off+22,none⟩=some (bj Ad N[n].lo.length cd):=hc 22 _ rfl;obtain⟨lo,Qm⟩:=af (N[n].lo);rw[iY hn,Qm,Yp] at z;rw[Qm] at aM am;have Ba:=qh am;have KN:=qh (show ∀ w',EG w4 w'->Calls Tryz.prog 69 #[bk (some ⟨V,0,none⟩)] w' λ e A=>(∃ v,e = bl v/\DN 184 2 Fe A w'.heap.size v (kF N))/\EG w4 A from λ w' b =>
   (UA (lg.o w' (k.trans (b.mono k.size))).1).mono λ _ _ ⟨O,T⟩=>⟨O,b.trans (T.mono b.size)⟩)
  have WE:=qh (Yq U.1);have aL:(kF N).length<=maxLen:=by
   have O:=Fj (N:=N) N.length;rw[List.take_length] at O;have T:=U.1.nodes.1;unfold maxLen;omega
  have KT:=qh (show ∀ w' A5 c5,EG w4 w'->qK w' w'.heap.size A5 (kF N)->Calls Tryz.prog 178 #[.agg (BC e G D E e.ar.length F),bj A4 M.length c4,bj A5 (kF N).length c5,bj Ad lo.length cd] w' λ en A=>en = bl (.tuple #[bg bh R.1,bg bh R.2])/\EG w4 A from λ w' A5 c5 b h5=>by
   rw[z.o];have aD:=k.trans (b.mono k.size);have hE:=(lg.o w' aD).2.2.2.1.up (lg.o w' aD).2.2.2.2.1;exact (PZ e M (kF N) A4 A5 c4 c5 w'.heap.size lo Ad cd _ w' hE (au.Qe (λ _ _ h=>h.up b.size) (X.o.1.keep b) b.size) h5 Ba.o.1.2.2.1 ((Ba.o.1.1.below b).more b.size) Ba.o.1.2.1 (bq _) hp WE.o Ba.o.1.2.2.2).mono λ _ _ ⟨O,T⟩=>⟨O,b.trans (T.mono b.size)⟩)
  obtain⟨NL,aE⟩:=af (kF N);rw[aE] at KN KT aL;have ak:=Below.refl w4.heap.size w4;have FK:=qh (show ∀ w',EG w4 w'->w'.cell? ⟨r,0,none⟩=some (bk (some ⟨V,0,none⟩))/\w'.cell? ⟨w.heap.size,0,none⟩=some (bk (some ⟨r,0,none⟩))/\w'.cell? ⟨w.heap.size+1+1,0,none⟩=some (bg bh n)/\w'.cell? ⟨w.heap.size+1,0,none⟩=some (bg bh e.k)/\w'.cell? ⟨w.heap.size+1,1,none⟩=some (bg bh e.op)/\w'.cell? ⟨w.heap.size+1,2,none⟩=some (bi e.nm)/\w'.cell? ⟨w.heap.size+1,3,none⟩=some (bg bh e.v.k)/\w'.cell? ⟨w.heap.size+1,4,none⟩=some (bg bh e.v.n)/\w'.cell? ⟨w.heap.size+1,5,none⟩=some (bi e.v.s)/\w'.cell? ⟨w.heap.size+1,6,none⟩=some (bj G e.v.l.length D)/\w'.cell? ⟨w.heap.size+1,7,none⟩=some (bj E e.ar.length F)/\w'.cell? ⟨V,5,none⟩=some (bj (some p) N.length x.cn)/\w'.cell? ⟨(p.add (n*23)).block,(p.add (n*23)).off+22,none⟩=some (bj Ad lo.length cd)/\EG w4 w' from λ w' b=>⟨Below.cell_of b a1,Below.cell_of b a2,Below.cell_of b a3,Below.cell_of b iK,Below.cell_of b iL,Below.cell_of b iM,Below.cell_of b iQ,Below.cell_of b iR,Below.cell_of b iT,Below.cell_of b iU,Below.cell_of b iC,Below.cell_of b LM,Below.cell_of b aM,b⟩);clear hA hc am Qm U aE;go_region_held3 (λ w'=>w'.cell? ⟨r,0,none⟩=some (bk (some ⟨V,0,none⟩))/\w'.cell? ⟨w.heap.size,0,none⟩=some (bk (some ⟨r,0,none⟩))/\w'.cell? ⟨w.heap.size+1+1,0,none⟩=some (bg bh n)/\w'.cell? ⟨w.heap.size+1,0,none⟩=some (bg bh e.k)/\w'.cell? ⟨w.heap.size+1,1,none⟩=some (bg bh e.op)/\w'.cell? ⟨w.heap.size+1,2,none⟩=some (bi e.nm)/\w'.cell? ⟨w.heap.size+1,3,none⟩=some (bg bh e.v.k)/\w'.cell? ⟨w.heap.size+1,4,none⟩=some (bg bh e.v.n)/\w'.cell? ⟨w.heap.size+1,5,none⟩=some (bi e.v.s)/\w'.cell? ⟨w.heap.size+1,6,none⟩=some (bj G e.v.l.length D)/\w'.cell? ⟨w.heap.size+1,7,none⟩=some (bj E e.ar.length F)/\w'.cell? ⟨V,5,none⟩=some (bj (some p) N.length x.cn)/\w'.cell? ⟨(p.add (n*23)).block,(p.add (n*23)).off+22,none⟩=some (bj Ad lo.length cd)/\EG w4 w')
   (first | exact FK.o _ ak | exact FK.o _ ak.drew | exact FK.o _ ac | exact FK.o _ ac.drew | exact FK.o _ ay)
   (first
    | (go_at_call 69;(with_reducible refine (KN.o _ ak.drew).mono ?_);rintro e5 w5 ⟨⟨v5,rfl,be,an,aR⟩,ac⟩;obtain⟨A5,a5,rfl⟩:=jT an;have a9:=qh (show qK w5 w5.heap.size A5 NL from DN.agr ⟨be,an,aR⟩ aL);clear an aR)
    | (go_at_call 178;(with_reducible refine (KT.o _ A5 a5 ac a9.o).mono ?_);rintro e6 w6 ⟨rfl,ay⟩))
  all_goals
   go_wp2;go_ret2;exact⟨rfl,ar.trans (ay.mono ar.size)⟩
set_option maxHeartbeats 4000000
set_option maxRecDepth 100000
theorem FM {w:World} {B0 k G B D:Nat} {x:ku} {f:aG} {N:List ah} {K:aV} (h:aJ w B0 k G B D x f N K) (n:Nat) (g:n<N.length) :
  Calls Tryz.prog 169 #[bk (some ⟨k,0,none⟩),bg bh n] w λ e w'=>(∃ v,e = bl v/\(∃ A c,v = bj A (cZ N K n).length c/\fJ w' w'.heap.size A (cZ N K n)/\((A=none/\c=0/\cZ N K n = [])\/(∃ m,cZ N K n = [m]))))/\EG w w':=by
 obtain⟨ad,A,c,u,-,E,-,-,-,-,-,-,-⟩:=h.WH g;have C:w.cell? ⟨k,5,none⟩=some (bj x.AN N.length x.cn):=h.blk.cell 5;have z:=h.cap;have J:=h.nodes.1;rw[u] at C;have t:=qh (IP h n g);have a:=qh (show cZ N K n=if 0<=(n:Int)/\(je N n).it.k=4 then [vg K (je N n)] else [] from rfl);obtain⟨d,q⟩:=af (N[n]);rw[iY g,q] at a;rw[q] at t E;clear h u q;by_cases h4:d.it.k=4
 .have a:=qh (a.o.trans (if_pos ⟨by omega,h4⟩));rw[a.o];obtain⟨H,s⟩:=jf h4;clear h4;go_enter Tryz.func169,Tryz.ntmps169;go_wp2_with (go_at_call 110;(with_reducible refine t.o.mono ?_);rintro I p ⟨⟨F,rfl,l,o,rfl,r⟩,b⟩);go_ret;have y:=aB p (.cells #[bi (vg K d).nm,bg bh (vg K d).kind,bj l (vg K d).loops.length o] 51 (0,0));refine⟨⟨_,rfl,some ⟨p.heap.size,0,none⟩,1,rfl,⟨show 1<=maxLen by unfold maxLen;decide,[bi (vg K d).nm,bg bh (vg K d).kind,bj l (vg K d).loops.length o],⟨rfl,λ _=>⟨_,rfl,by simp,gU (ag.new p _ _)⟩⟩,λ i j=>?_⟩,.inr ⟨_,rfl⟩⟩,b.trans (y.mono b.size)⟩;obtain rfl:i=0:=by simpa using j
  exact (ik.later ⟨l,o,rfl,r⟩ y).at_
 .have a:=qh (a.o.trans (if_neg (λ h=>h4 h.2)));rw[a.o];obtain⟨H,s⟩:=gp h4;clear h4;go_enter Tryz.func169,Tryz.ntmps169;go_wp2;go_ret;exact⟨⟨_,rfl,none,0,rfl,⟨by decide,[],Reads.none_,λ i j=>by cases j⟩,bo ⟨rfl,rfl,by first | rfl | trivial⟩⟩,Below.refl _ _⟩
theorem FN {F:Ex->Int × Int} {k:Int} {l:List Ex} {i:Nat} (h:i<l.length):eG F k (l.drop i)=if (F l[i]).2≠0 then (F l[i]).2 else if (F l[i]).1≠k then 8 else eG F k (l.drop (i+1)):=by
 rw[bL h,eG]
theorem I9 {w:World} {B0 gb m1 m2 m3:Nat} {x:ku} {f:aG} {N:List ah} {K:aV} (h:aJ w B0 gb m1 m2 m3 x f N K) {u:Nat} (v:w.cell? ⟨u,0,none⟩=some (bk (some ⟨gb,0,none⟩))) (S:u<w.heap.size) (hN:eH N) {more:List aY} {AM A:Option Addr} {cm c B n:Nat} {l:List Ex} (G:fJ w w.heap.size AM more) (y:(AM=none/\cm=0/\more = [])\/(∃ m,more = [m])) (X:au aQ 8 w B A l) (M:B<=w.heap.size) (hn:n<N.length)
  (hp:∀ e∈l,e.parts<=1000000) (p:Tab w) (F:Mx w) :
  CS 117 #[bk (some ⟨u,0,none⟩),bj A l.length c,bg bh n,bj AM more.length cm] w (bg bh (eG (bU N K n more) 7 l)):=by
 have U:=X.1;unfold maxLen at U;have HL:=qh X;have KF:=qh (show ∀ w' e cs,EG w w'->aQ w' B e cs->e.parts<=1000000->Calls Tryz.prog 120 #[bk (some ⟨u,0,none⟩),.agg cs.toArray,bg bh n,bj AM more.length cm] w' λ en T=>en = bl (.tuple #[bg bh (bU N K n more e).1,bg bh (bU N K n more e).2])/\EG w' T from λ w' e cs j hx W =>
  xJ (h.keep j) (Below.cell_of j v) (bB S j.size) hN (au.Qe (λ _ _ h=>h.up j.size) (G.keep j) j.size) y hx (bp M j.size) hn W (aF p j) (F.below j))
 have HP:=qh hp;obtain⟨V,z⟩:=af (bU N K n more);rw[z] at KF ⊢;obtain⟨R,P⟩:=af (eG V 7 l);have HR:=qh P.symm;rw[P];clear h v G X hp p F z P y;go_enter Tryz.func117,Tryz.ntmps117;go_wp2;go_loopw [15] (λ i wr=>∃ k:Nat,i = bg bh k/\k<=l.length/\Hid (R=eG V 7 (l.drop k))/\EG w wr) (λ i _=>l.length+1 - (intOf i).toNat)
 case atStart=>exact⟨0,rfl,Nat.zero_le _,HR,Below.refl _ _⟩
 case round =>
  obtain⟨k,rfl,hk,q,D⟩:=hrel;have hs:=D.size;by_cases hlt:k<l.length
  .have q:=qh (q.o.trans (FN hlt));obtain⟨ad,ci,rfl,Y,s,b⟩:=au.at_ (au.keep (λ _ _ h=>h.keep (D.mono M)) HL.o (D.mono M)) hlt;obtain⟨a,Z⟩:=af (l[k]);have lL:=qh (HP.o a (Z▸bv hlt));rw[Z] at s q;have tq:=qh s;have aX:=qh hlt;obtain⟨-,-,-,-,-,-,-⟩:=s;rename_i L J I H aa;have qJ:wr.cell? (ad.add (k*8))=some (bg bh a.k):=b 0 _ rfl;have rU:wr.cell? ⟨(ad.add (k*8)).block,(ad.add (k*8)).off+1,none⟩=some (bg bh a.op):=b 1 _ rfl;have x9:wr.cell? ⟨(ad.add (k*8)).block,(ad.add (k*8)).off+2,none⟩=some (bi a.nm):=b 2 _ rfl;have AP:wr.cell? ⟨(ad.add (k*8)).block,(ad.add (k*8)).off+3,none⟩=some (bg bh a.v.k):=b 3 _ rfl;have AQ:wr.cell? ⟨(ad.add (k*8)).block,(ad.add (k*8)).off+4,none⟩=some (bg bh a.v.n):=b 4 _ rfl;have AU:wr.cell? ⟨(ad.add (k*8)).block,(ad.add (k*8)).off+5,none⟩=some (bi a.v.s):=b 5 _ rfl;have AV:wr.cell? ⟨(ad.add (k*8)).block,(ad.add (k*8)).off+6,none⟩=some (bj L a.v.l.length J):=b 6 _ rfl;have AZ:wr.cell? ⟨(ad.add (k*8)).block,(ad.add (k*8)).off+7,none⟩=some (bj I a.ar.length H):=b 7 _ rfl;obtain⟨W3,o⟩:=aH (wr.alloc (.cells (BC a L J I a.ar.length H) 67 (0,0)));have E:EG wr W3:=o▸aB wr _;have B3:ag W3 wr.heap.size 67 (BC a L J I a.ar.length H):=o▸ag.new wr _ _;have d:=D.trans (E.mono hs);clear b Z Y;go_upto_region 4 with (fail);rw[<- o];clear o qJ rU x9 AP AQ AU AV AZ;obtain⟨Ls,Lt,Lu,LC,LD,LG,LH,LJ⟩:=ag.c8 B3;have KA:=qh (show Calls Tryz.prog 120 #[bk (some ⟨u,0,none⟩),.agg (BC a L J I a.ar.length H),bg bh n,bj AM more.length cm] W3 _ from KF.o W3 a _ d (tq.o.keep (E.mono (bp M hs))) lL.o);obtain⟨r,hr⟩:=af (V a);rw[hr] at KA q;clear hr;by_cases h0:r.2=0
   case' neg =>
    have t:=qh (q.o.trans (if_pos h0));obtain⟨g0,Q⟩:=gp h0;clear h0
   case' pos =>
    have C:=qh (q.o.trans (if_neg (λ h=>h h0)));obtain⟨g0,Q⟩:=jf h0;clear h0;by_cases h7:r.1=7
    case' neg =>
     have t:=qh (C.o.trans (if_pos h7));obtain⟨g7,O⟩:=gp h7;clear h7
    case' pos =>
     have t:=qh (C.o.trans (if_neg (λ h=>h h7)));obtain⟨g7,O⟩:=jf h7;clear h7
   all_goals
    go_wp2_with (go_at_call 120;(with_reducible refine KA.o.mono ?_);rintro e1 w4 ⟨rfl,g⟩;have g:=d.trans (g.mono d.size);clear Ls Lt Lu LC LD LG LH LJ)
    first
     | (go_ret
        exact⟨ai t.o.symm,g⟩)
     | (go_roundw
        case rel=>exact⟨k+1,by go_num,aX.o,t,g⟩
        case measure =>
         have:=aX.o;simp[intOf];omega)
  .have e:k=l.length:=by omega
   subst e;have t:=qh (show R=0 from q.o.trans (by rw[List.drop_length];rfl));go_wp2;go_ret;exact⟨ai t.o.symm,D⟩
end Go.Proofs.YtcnagconagpkcaaGreatDoor
namespace Go.Proofs.YtcnagconagpkcaaGreatDoor
open Go.RowKit
attribute [local go_sem ↓] Go.wp_at_zero Go.wp_at_succ
set_option maxHeartbeats 4000000
set_option maxRecDepth 100000
theorem byT {c d:UInt8} {n:Int} (a:(d.toNat:Int)=n) (h:c=d):(c.toNat:Int)=n:=by rw[h];exact a
theorem byF {c d:UInt8} {n:Int} (a:(d.toNat:Int)=n) (h:¬ c=d):¬ (c.toNat:Int)=n:=λ e=>h (UInt8.toNat_inj.1 (by omega))
def U7 (s:ByteArray) (i:Nat):Int:=match qj (s.data.toList.drop i) false 0 with
 | some k=>(i+k:Nat)
 | none=>-1
theorem Yr {s:ByteArray} {j:Nat} (h:j<s.size) (q:Bool) (m:Nat):qj (s.data.toList.drop j) q m=if s[j]=39 then qj (s.data.toList.drop (j+1)) (!q) (m+1) else if q=true then qj (s.data.toList.drop (j+1)) q (m+1) else if s[j]=125 then some m else if s[j]=123 then none else qj (s.data.toList.drop (j+1)) q (m+1):=by
 have a:j<s.data.toList.length:=by simpa using h
 rw[bL a,qj];rfl
theorem end_none {s:ByteArray} (q:Bool) (m:Nat):qj (s.data.toList.drop s.size) q m=none:=by
 rw[bA (by simp),qj]
theorem N7 (s:ByteArray) (i:Nat) (w:World) (D:s.size<=maxLen) (B:i<=s.size) :
  He 208 #[bi s,bg bh i] w (bg bh (U7 s i)):=by
 unfold maxLen at D;obtain⟨R,v⟩:=af (U7 s i);have x:=qh (show ∀ r,qj (s.data.toList.drop i) false 0=r->R=(match r with | some k=>((i+k:Nat):Int) | none=>-1) from λ r h=>by rw[<- v,U7,h]);rw[v];clear v;go_enter Tryz.func208,Tryz.ntmps208;go_wp2;go_loopw [1,5] (λ a q wr=>∃ (j:Nat) (b:Bool),a = bg bh j/\q = .bool b/\i<=j/\j<=s.size/\wr=w/\Hid (qj (s.data.toList.drop i) false 0=qj (s.data.toList.drop j) b (j - i))) (λ a _ _=>s.size+1 - (intOf a).toNat)
 case atStart=>exact⟨i,false,rfl,rfl,bq _,B,rfl,qh (by rw[Nat.sub_self])⟩
 case round =>
  obtain⟨j,b,rfl,rfl,m,F,rfl,f⟩:=hrel;by_cases o:j<s.size
  .have f:=qh (f.o.trans (Yr o b (j - i)));obtain⟨c,z⟩:=af (s[j]);rw[z] at f;have g:=qh (br o m);rw[<- Nat.sub_add_comm m] at f;by_cases qo:c=39
   .obtain⟨C,t⟩:=jf (byT (n:=39) rfl qo);have d:=qh (f.o.trans (if_pos qo));clear qo;go_wp2;go_roundw
    case rel=>exact⟨j+1,_,by go_num,rfl,by have:=g.o;omega,g.o.1,by first | rfl | trivial,d⟩
    case measure =>
     have:=g.o
     first | (simp[intOf];done) | (simp[intOf];omega)
   have f:=qh (f.o.trans (if_neg qo));obtain⟨C,t⟩:=gp (byF (n:=39) rfl qo);clear qo;cases b
   case true =>
    have d:=qh (f.o.trans (if_pos rfl));go_wp2;go_roundw
    case rel=>exact⟨j+1,_,by go_num,rfl,by have:=g.o;omega,g.o.1,by first | rfl | trivial,d⟩
    case measure =>
     have:=g.o
     first | (simp[intOf];done) | (simp[intOf];omega)
   have p:=qh (f.o.trans (if_neg (by decide)));by_cases zV:c=125
   .obtain⟨E,u⟩:=jf (byT (n:=125) rfl zV);have d:=qh (x.o _ (p.o.trans (if_pos zV)));clear zV;go_wp2;go_ret;exact⟨ai (by rw[d.o];have:=g.o;simp;omega),by first | rfl | trivial⟩
   have l:=qh (p.o.trans (if_neg zV));obtain⟨E,u⟩:=gp (byF (n:=125) rfl zV);clear zV;by_cases iq:c=123
   .obtain⟨A,y⟩:=jf (byT (n:=123) rfl iq);have d:=qh (x.o _ (l.o.trans (if_pos iq)));clear iq;go_wp2;go_ret;exact⟨ai (by rw[d.o]),by first | rfl | trivial⟩
   have d:=qh (l.o.trans (if_neg iq));obtain⟨A,y⟩:=gp (byF (n:=123) rfl iq);clear iq;go_wp2;go_roundw
   case rel=>exact⟨j+1,_,by go_num,rfl,by have:=g.o;omega,g.o.1,by first | rfl | trivial,d⟩
   case measure =>
    have:=g.o
    first | (simp[intOf];done) | (simp[intOf];omega)
  .have e:j=s.size:=by omega
   subst e;have d:=qh (x.o _ (f.o.trans (end_none _ _)));go_wp2;go_ret;exact⟨ai (by rw[d.o]),by first | rfl | trivial⟩
end Go.Proofs.YtcnagconagpkcaaGreatDoor
namespace Go.Proofs.YtcnagconagpkcaaGreatDoor
def kK (nt:NT) (l:List Tok):Nat:=12*l.length+gK nt
structure Agree (m:Nat) (p q:NT->List Ex->List Tok->xQ):Prop where
 eq:∀ nt acc l,kK nt l<=m->p nt acc l=q nt acc l
 len:∀ nt acc l es l',p nt acc l = .ok es l'->l'.length<=l.length
theorem bind_congr {r b:xQ} {k k':List Ex->List Tok->xQ} {m:Nat} (d:r=b) (c:∀ a l,r = .ok a l->l.length<=m) (e:∀ a l,l.length<=m->k a l=k' a l):r.bind k=b.bind k':=by
 subst d;cases r with
 | err p=>rfl
 | ok a l=>exact e a l (c a l rfl)
theorem FO {n m:Nat} {w:List UInt8} {l:List Tok} {k k':List Tok->xQ} (a:l.length<=m) (b:∀ l,l.length+1<=m->k l=k' l):dL n w l k=dL n w l k':=by
 unfold dL;split
 .rename_i h;cases l with
  | nil=>cases h
  | cons t r=>exact b _ (by simpa using a)
 .rfl
theorem Ee {l:List Tok} {w:List UInt8} (h:mW l w=true):l.tail.length+1=l.length:=by
 cases l with
 | nil=>cases h
 | cons t r=>rfl
theorem FP {a b:Int} {l:List Tok} (h:gJ a b l≠0):l.tail.length+1=l.length:=by
 cases l with
 | cons t r=>rfl
 | nil =>
  refine absurd ?_ h;unfold gJ;rw[if_neg (by simp[mW])];rw[List.find?_eq_none.2 (λ o _=>by simp[mW])]
theorem FQ {n m:Nat} {p q:NT->List Ex->List Tok->xQ} (h:Agree m p q) (f:NT) (c:List Ex) (l:List Tok) (g:kK f l<=m+1):iI n p f c l=iI n q f c l:=by
 have H:=h.eq;have L:=h.len;unfold kK at H g;cases f <;> dsimp only[iI,gK] at g ⊢
 case or=>exact bind_congr (m:=l.length) (H _ _ _ (by simp only[gK];omega)) (λ _ _ e=>L _ _ _ _ _ e) (λ _ _ a=>H _ _ _ (by simp only[gK];omega))
 case Uu =>
  split
  .rename_i b;have:=Ee b;exact bind_congr (m:=l.tail.length) (H _ _ _ (by simp only[gK];omega)) (λ _ _ e=>L _ _ _ _ _ e) (λ _ _ a=>H _ _ _ (by simp only[gK];omega))
  .rfl
 case and=>exact bind_congr (m:=l.length) (H _ _ _ (by simp only[gK];omega)) (λ _ _ e=>L _ _ _ _ _ e) (λ _ _ a=>H _ _ _ (by simp only[gK];omega))
 case BP =>
  split
  .rename_i b;have:=Ee b;exact bind_congr (m:=l.tail.length) (H _ _ _ (by simp only[gK];omega)) (λ _ _ e=>L _ _ _ _ _ e) (λ _ _ a=>H _ _ _ (by simp only[gK];omega))
  .rfl
 case not =>
  split
  .rename_i b;have:=Ee b;exact bind_congr (m:=l.tail.length) (H _ _ _ (by simp only[gK];omega)) (λ _ _ e=>L _ _ _ _ _ e) (λ _ _ a=>rfl)
  .refine bind_congr (m:=l.length) (H _ _ _ (by simp only[gK];omega)) (λ _ _ e=>L _ _ _ _ _ e) (λ _ l1 a=>?_);split
   .rfl
   .rename_i d;have:=FP d;exact bind_congr (m:=l1.tail.length) (H _ _ _ (by simp only[gK];omega)) (λ _ _ e=>L _ _ _ _ _ e) (λ _ _ a=>rfl)
 case sum=>exact bind_congr (m:=l.length) (H _ _ _ (by simp only[gK];omega)) (λ _ _ e=>L _ _ _ _ _ e) (λ _ _ a=>H _ _ _ (by simp only[gK];omega))
 case DL =>
  split
  .rfl
  .rename_i d;have:=FP d;exact bind_congr (m:=l.tail.length) (H _ _ _ (by simp only[gK];omega)) (λ _ _ e=>L _ _ _ _ _ e) (λ _ _ a=>H _ _ _ (by simp only[gK];omega))
 case product=>exact bind_congr (m:=l.length) (H _ _ _ (by simp only[gK];omega)) (λ _ _ e=>L _ _ _ _ _ e) (λ _ _ a=>H _ _ _ (by simp only[gK];omega))
 case jH =>
  split
  .rfl
  .rename_i d;have:=FP d;exact bind_congr (m:=l.tail.length) (H _ _ _ (by simp only[gK];omega)) (λ _ _ e=>L _ _ _ _ _ e) (λ _ _ a=>H _ _ _ (by simp only[gK];omega))
 case minus =>
  split
  .rename_i b;have:=Ee b;split
   .rfl
   .exact bind_congr (m:=l.tail.length) (H _ _ _ (by simp only[gK];omega)) (λ _ _ e=>L _ _ _ _ _ e) (λ _ _ a=>rfl)
  .exact H _ _ _ (by simp only[gK];omega)
 case bK =>
  split
  .rfl
  .rename_i t r;have j:r.tail.length<=r.length:=by rw[bN];omega
   have i:r.tail.tail.length<=r.length:=by rw[bN];omega
   simp only[List.length_cons] at g;split
   .rfl
   split
   .rfl
   split
   .exact bind_congr (m:=r.length) (H _ _ _ (by simp only[gK];omega)) (λ _ _ e=>L _ _ _ _ _ e) (λ _ _ a=>rfl)
   split
   .rfl
   split
   .rfl
   split
   .split
    .rfl
    .exact FO (m:=r.length) i (λ l1 a=>bind_congr (m:=r.length) (H _ _ _ (by simp only[gK];omega)) (λ _ _ e=>bp (L _ _ _ _ _ e) (by omega)) (λ _ _ _=>rfl))
   split
   .exact bind_congr (m:=r.length) (H _ _ _ (by simp only[gK];omega)) (λ _ _ e=>bp (L _ _ _ _ _ e) (by omega)) (λ _ _ a=>rfl)
   .rfl
 case args=>exact bind_congr (m:=l.length) (H _ _ _ (by simp only[gK];omega)) (λ _ _ e=>L _ _ _ _ _ e) (λ _ _ a=>H _ _ _ (by simp only[gK];omega))
 case qc =>
  split
  .exact FO (m:=l.length) (bq _) (λ l1 a=>bind_congr (m:=l1.length) (H _ _ _ (by simp only[gK];omega)) (λ _ _ e=>L _ _ _ _ _ e) (λ _ _ a=>H _ _ _ (by simp only[gK];omega)))
  .rfl
theorem Yt (n:Nat):∀ (f c:Nat) (b:NT) (a:List Ex) (l:List Tok),kK b l<=f->kK b l<=c->P n f b a l=P n c b a l
 | 0,_,b,_,_,h,_=>by unfold kK at h;cases b <;> simp[gK] at h
 | _+1,0,b,_,_,_,h=>by unfold kK at h;cases b <;> simp[gK] at h
 | f+1,c+1,b,a,l,h,h'=>by
  rw[P,P];refine FQ (m:=min f c) ⟨λ b a l d=>Yt n f c b a l (bp d (Nat.min_le_left _ _)) (bp d (Nat.min_le_right _ _)),λ b a l i g e=>Su n f b a l i g _ e (bq _)⟩ b a l (by omega)
noncomputable def Pz (n:Nat) (nt:NT) (acc:List Ex) (l:List Tok):xQ:=P n (kK nt l) nt acc l
theorem wO {n:Nat} {d:NT} {a:List Ex} {l:List Tok} {c:List Ex} {b:List Tok} (h:Pz n d a l = .ok c b):b.length<=l.length:=Su n _ d a l c b _ h (bq _)
theorem iJ (n:Nat) (b:NT) (a:List Ex) (l:List Tok):Pz n b a l=iI n (Pz n) b a l:=by
 have d:∃ m,kK b l=m+1:=by
  unfold kK;cases b <;> exact⟨_,rfl⟩
 obtain⟨m,h⟩:=d;unfold Pz;rw[h,P];exact FQ (m:=m) ⟨λ b a l c=>Yt n m _ b a l c (bq _),λ b a l g f e=>Su n m b a l g f _ e (bq _)⟩ b a l (by omega)
theorem U8 (s:List UInt8):P s.length (12*(wordsOf s 0).length+7) .or [] (wordsOf s 0)=Pz s.length .or [] (wordsOf s 0):=rfl
end Go.Proofs.YtcnagconagpkcaaGreatDoor
namespace Go.Proofs.YtcnagconagpkcaaGreatDoor
open Vtx Go.Lib Dig
theorem Ja {c:UInt8} (h:c≠32):bC c=false:=by unfold bC;exact decide_eq_false h
def akw (s:List UInt8) (i:Nat):Prop:=i=0\/gY (s.getD (i - 1) 0)=false
def Stop (rest:List UInt8):Prop:=∀ c r,rest=c :: r->c=32\/c=41\/c=44
theorem Yu {c:UInt8} (h:pX c=true):gY c=true:=by unfold gY;rw[h];rfl
theorem U9 {b:UInt8} (h:dK b):48<=b.toNat/\b.toNat<=57:=by
 unfold dK at h;omega
theorem abM {b:UInt8} (h:dK b):fO b=true:=by
 have:=U9 h;unfold fO;simp;omega
theorem abN {c:UInt8} {a:List UInt8} (f:pX c=false) (g:fO c=false) (b:c≠64/\c≠35/\c≠39/\c≠123) (e:∀ d r,a=d :: r->Qc c d=false):dA ([c] ++ a) = [c].length:=by
 rw[List.singleton_append,dA,if_neg (by rw[f];decide),if_neg (by rw[g];decide),if_neg b.1,if_neg b.2.1,if_neg b.2.2.1,if_neg b.2.2.2];cases a with
 | nil=>rfl
 | cons d r=>unfold qM;simp[e d r rfl]
section
variable {s:List UInt8}
def HW (s:List UInt8) (w f:List UInt8):Prop:=∀ i rest,s.drop i=w ++ rest->Stop rest->akw s i->∃ r,wordsOf s i=⟨i,f,false⟩ :: r
theorem Yv {a:List Ex} {l:List Tok} (h:mW l XH=false):Pz s.length .BP a l = .ok (Di 2 a) l:=by rw[iJ];exact if_neg (by rw[h];decide)
theorem abO {a:List Ex} {l:List Tok} (h:mW l orW=false):Pz s.length .Uu a l = .ok (Di 3 a) l:=by rw[iJ];exact if_neg (by rw[h];decide)
theorem aee {c:UInt8} (h:c≠60/\c≠62) (a:List UInt8):∀ d r,a=d :: r->Qc c d=false:=λ d r _=>by
 unfold Qc;simp[h.1,h.2]
end
theorem aef {x v:Val} (h:(⟨x.k,x.n,x.s.data.toList,x.l⟩:Q)=⟨v.k,v.n,v.s.data.toList,v.l⟩):x=v:=by
 obtain⟨k,n,s,l⟩:=x;obtain⟨d,c,s',b⟩:=v;injection h with h1 h2 h3 h4;simp only at h1 h2 h3 h4;have a:s=s':=ByteArray.ext (Array.toList_inj.1 h3);subst h1 h2 a h4;rfl
theorem QA {v:Val} (h:di v=0):ve (showT v.k v.n v.s.data.toList v.l)=some v:=by
 have a:∃ x:Val,di x=0/\showT x.k x.n x.s.data.toList x.l=showT v.k v.n v.s.data.toList v.l:=⟨v,h,rfl⟩;unfold ve;rw[dif_pos a];have b:=a.choose_spec;have c:=uu (yL b.1).1;rw[b.2,uu (yL h).1] at c;rw[aef (Option.some.inj c).symm]
theorem nd {b:UInt8} (h:fO b=false):¬ dK b:=λ e=>by rw[abM e] at h;cases h
section
variable {s:List UInt8}
end
def lF (a:Option UInt8) (l:List UInt8):Bool:=match a,l with
 | some a,d :: _=>(fO a || decide (a=35)) && fO d
 | _,_=>false
theorem abP (a l:List UInt8):Sr a l=lF a.getLast? l:=by
 unfold Sr lF;rfl
theorem FT (l:List UInt8):(l.dropWhile bC).length<=l.length:=(List.dropWhile_sublist _).length_le
def Bc (a:Option UInt8):List UInt8->List UInt8
 | []=>[]
 | c :: r=>if c≠32 then c :: Bc (some c) r else if lF a (r.dropWhile bC) then 32 :: Bc (some 32) (r.dropWhile bC) else Bc a (r.dropWhile bC)
termination_by l=>l.length
decreasing_by
 all_goals have:=FT r
 all_goals simp
 all_goals omega
theorem Yw (a:Option UInt8):Bc a [] = []:=by rw[Bc]
theorem Td (a:Option UInt8) {c:UInt8} (r:List UInt8) (h:c≠32):Bc a (c :: r)=c :: Bc (some c) r:=by rw[Bc,if_pos h]
theorem N9 (a:Option UInt8) (r:List UInt8):Bc a (32 :: r)=if lF a (r.dropWhile bC) then 32 :: Bc (some 32) (r.dropWhile bC) else Bc a (r.dropWhile bC):=by rw[Bc,if_neg (by simp)]
theorem FU:∀ (f:Nat) (a l:List UInt8),l.length<f->qY f a l=a ++ Bc a.getLast? l
 | 0,_,_,h=>by omega
 | f+1,a,[],_=>by rw[qY,Yw,bE]
 | f+1,a,c :: r,h=>by
  have b:r.length<f:=by simpa using h
  have d:=FT r;rw[qY];by_cases hc:c=32
  .subst hc;rw[if_neg (by simp),FU f _ _ (by omega),abP,N9];by_cases hk:lF a.getLast? (r.dropWhile bC)=true
   .rw[if_pos hk,if_pos hk];simp
   .rw[if_neg hk,if_neg hk]
  .rw[if_pos hc,FU f _ _ b,Td _ _ hc];simp
theorem Yx (s:List UInt8):lU s=Bc none s:=by
 unfold lU;rw[FU _ _ _ (Nat.lt_succ_self _)];rfl
def tp (p:List UInt8):List UInt8:=Bc (some 44) p
theorem yR {x:List UInt8} (h:∀ v:Val,di v=0->showT v.k v.n v.s.data.toList v.l≠x):ve x=none:=by
 unfold ve;rw[dif_neg (λ ⟨v,a,b⟩=>h v a b)]
end Go.Proofs.YtcnagconagpkcaaGreatDoor
