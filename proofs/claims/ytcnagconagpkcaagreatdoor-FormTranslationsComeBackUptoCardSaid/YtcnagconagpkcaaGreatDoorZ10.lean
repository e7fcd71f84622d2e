/- Lemmas. -/
import Derived.Test.YtcnagconagpkcaaGreatDoorZ9
import Derived.Laws.AppendOwn
open Go.Value renaming int->bd, string->bh, slice->bi, pointer->bj
open Go.IntKind renaming i64->be
open Go.Ending renaming returned->bk
open Go.AllReadyH renaming cons->bl, nil->bm
open Nat renaming le_trans->bn, le_refl->bq, zero_mul->bw, lt_of_lt_of_le->bz
open Or renaming inl->bo
open And renaming intro->bp
open Go.NoPanic renaming normal->br
open List renaming length_append->bs, getElem_mem->bt, length->bv, drop_eq_nil_of_le->bx, drop_eq_getElem_cons->bA
set_option maxHeartbeats 4000000
set_option maxRecDepth 100000
namespace Go.Proofs.YtcnagconagpkcaaGreatDoor
open Tryz
open Tryz renaming prog->lM
section
open Go.RowKit
attribute [local go_sem ↓] Go.wp_at_zero Go.wp_at_succ
theorem acH {w:World} {B:Nat} {ad:Addr} (h:dA w B (some ad) vI) {op:Int} (f:1<=op) (e:op<=6):∃ b o,ad=⟨b,o,none⟩/\w.cell? ⟨b,o+op.toNat,none⟩=some (bh (tx (jV op))):=by
 obtain⟨b,o,c,g,a⟩:=h.plain (show 0<vI.length by decide);refine⟨b,o,Option.some.inj c,a _ _ ?_⟩;have d:op.toNat=1\/op.toNat=2\/op.toNat=3\/op.toNat=4\/op.toNat=5\/op.toNat=6:=by omega
 unfold jV;rcases d with h | h | h | h | h | h <;> rw[h] <;> rfl
theorem Vl (e:Ex) (C:e.k=5) (hI:∀ a∈e.ar,eu 212 a) (h9:∀ a∈e.ar,a.text.length<=1000000000) (hj:∀ l,((insL l e.ar).map bv).sum+98*e.ar.length<=999999000) (al:e.ar.length<=999999) (hP:jw e=0) (B:Nat) (cs:List Value) (w:World) (hx:bC w B e cs) (hB:B<=w.heap.size) (Q:Tab w) (hm:Mx w) :
  CS 212 #[.agg cs.toArray] w (bh (tx (e.text))):=by
 have P:=kJ hP;have HX:=qh hx;obtain⟨R,hR⟩:=af (e.text);rw[hR];have U:=hR.symm.trans (text_eq e);have jU:=qh (λ w' (x:DD w w')=>bp (aB Q x) (hm.below x));obtain⟨hn,hs,hl,ha,hx,hr,hi⟩:=hx;rename_i A1 c1 A2 c2 cs;have qM:=qh (λ w' (x:DD w w')=>HX.o.keep (x.mono hB));have aD:(e.k == 1)=false:=by rw[C];rfl
 have aw:(e.k == 2)=false:=by rw[C];rfl
 have aL:(e.k == 3)=false:=by rw[C];rfl
 have aE:(e.k == 5)=true:=by rw[C];rfl
 rw[if_neg (by omega),if_neg (by omega),if_neg (by omega),if_pos C] at U;have ae:=P.op5 C;have h1:=P.a5 C;have aa:=zh (rF hP (.inr (.inr C)));have aM:e.nm.size<=16:=by simpa using aa
 obtain⟨ad,av,rfl,aq,yg,E⟩:=yf hr hi (show 0<e.ar.length by omega);have hg:=wS 0 e.ar 0 (by omega);have hz:=h9 _ (bt (show 0<e.ar.length by omega));have T:=hI _ (bt (show 0<e.ar.length by omega));obtain⟨a,ag⟩:=af (e.ar[0]);rw[ag] at yg hg hz T;have qV:=qh yg;obtain⟨z1,z2,z3,z4,ar,ao,ak⟩:=yg;rename_i A3 c3 A4 c4 ay;have L:∀ j u,(aA a A3 c3 A4 c4)[j]?=some u->w.cell? (ad.add j)=some u:=λ j u hu=>by have h:=E j u hu;rwa [bw,kV] at h
 have qi:w.cell? (ad)=some (bd be a.k):=L 0 _ rfl;have qW:w.cell? ⟨(ad).block,(ad).off+1,none⟩=some (bd be a.op):=L 1 _ rfl;have xE:w.cell? ⟨(ad).block,(ad).off+2,none⟩=some (bh a.nm):=L 2 _ rfl;have zX:w.cell? ⟨(ad).block,(ad).off+3,none⟩=some (bd be a.v.k):=L 3 _ rfl;have zY:w.cell? ⟨(ad).block,(ad).off+4,none⟩=some (bd be a.v.n):=L 4 _ rfl;have zZ:w.cell? ⟨(ad).block,(ad).off+5,none⟩=some (bh a.v.s):=L 5 _ rfl;have Aa:w.cell? ⟨(ad).block,(ad).off+6,none⟩=some (bi A3 a.v.l.length c3):=L 6 _ rfl;have Ac:w.cell? ⟨(ad).block,(ad).off+7,none⟩=some (bi A4 a.ar.length c4):=L 7 _ rfl;have ax:=qh h1;have am:=XU a;obtain⟨t,M⟩:=af (tx a.text);obtain⟨s,N⟩:=af (tx (jV e.op));have st:t.size<=1000000000:=by rw[<- M,kG];exact hz
 have ss:s.size<=5:=by rw[<- N,kG];exact Tj e.op
 have DU:=qh N;have mO:=qh M;have ac:=qh ae;have an:=qh T;have X:=qh (show tx R=s ++ ⟨#[40]⟩ ++ e.nm ++ ⟨#[58,32]⟩ ++ t ++ ⟨#[41]⟩ by
  rw[U,hg,<- N,<- M];have hp:rf (decide (gQ a<0)) a.text=a.text:=by unfold rf;rw[decide_eq_false (by omega)];rfl
  rw[hp];have ab:e.nm=tx e.nm.data.toList:=NW rfl;rw[ab,<- ig,<- ig,<- ig,<- ig,<- ig];rw[<- ab];try rfl)
 have o1:0<=e.op:=by omega
 have o2:e.op<7:=by omega
 clear hx hr hi Q hm hI h9 hj al hR U E L ar ao ak aq ag z1 z2 z3 z4 P hP C hg hz T M N am aa ae;change Hid (∀ w',DD w w'->bC w' B e [bd be e.k,bd be e.op,bh e.nm,bd be e.v.k,bd be e.v.n,bh e.v.s,bi A1 e.v.l.length c1,bi (some ad) e.ar.length c2]) at qM;rw[h1] at qM;show Calls lM 212 #[.agg (Ag e A1 c1 (some ad) e.ar.length c2)] w _;rw[h1];clear h1;go_enter func212,ntmps212;go_upto_region 1 with (fail);obtain⟨W,Y⟩:=aG ((w.alloc (.cells (Ag e A1 c1 (some ad) 1 c2) 67 (0,0))));have q:DD w W:=by rw[Y];exact ((Below.refl _ w).alloc (bq _) _)
 have B0:ah W (w.heap.size) 67 (Ag e A1 c1 (some ad) 1 c2):=by
  rw[Y];have:=ah.new w 67 (Ag e A1 c1 (some ad) 1 c2);exact this
 have ap:W.heap.size=w.heap.size+1:=by rw[Y];simp
 rw[<- Y];obtain⟨iE,iF,iG,iH,iI,iJ,iK,gX⟩:=ah.c8 B0;have Lu:W.cell? ad=some (bd be a.k):=Below.cell_of q qi;have LC:W.cell? ⟨ad.block,ad.off+1,none⟩=some (bd be a.op):=Below.cell_of q qW;have LD:W.cell? ⟨ad.block,ad.off+2,none⟩=some (bh a.nm):=Below.cell_of q xE;have LH:W.cell? ⟨ad.block,ad.off+3,none⟩=some (bd be a.v.k):=Below.cell_of q zX;have LJ:W.cell? ⟨ad.block,ad.off+4,none⟩=some (bd be a.v.n):=Below.cell_of q zY;have LK:W.cell? ⟨ad.block,ad.off+5,none⟩=some (bh a.v.s):=Below.cell_of q zZ;have LM:W.cell? ⟨ad.block,ad.off+6,none⟩=some (bi A3 a.v.l.length c3):=Below.cell_of q Aa;have LP:W.cell? ⟨ad.block,ad.off+7,none⟩=some (bi A4 a.ar.length c4):=Below.cell_of q Ac;clear Y ap qi qW xE zX zY zZ Aa Ac;have z:=qh (show ∀ w',DD W w'->Calls lM 237 #[] w' λ V D=>∃ b o,V = bk (bi (some ⟨b,o,none⟩) 7 7)/\D.cell? ⟨b,o+e.op.toNat,none⟩=some (bh s)/\DD W D/\DD w' D from λ w' x =>
  (xN w').mono λ _ D ⟨ad,he,hs,C⟩=>by
   obtain⟨b,o,rfl,hc⟩:=acH hs ac.o.1 ac.o.2;exact⟨b,o,he,by rw[hc,DU.o],x.trans (C.mono x.size),C⟩)
 have A:=qh (show ∀ w',DD W w'->Calls lM 212 #[.agg (Ag a A3 c3 A4 a.ar.length c4)] w' λ V D=>V = bk (bh t)/\DD W D/\DD w' D from λ w' x=>by
  have O:=q.trans (x.mono q.size);have h:=an.o B _ w' (qV.o.keep (O.mono hB)) (bn hB O.size) (jU.o w' O).1 (jU.o w' O).2;rw[mO.o] at h;exact h.mono λ _ _ ⟨he,C⟩=>⟨he,x.trans (C.mono x.size),C⟩)
 have c:=qh (show ∀ w',DD W w'->w'.cell? ⟨w.heap.size,1,none⟩=some (bd be e.op)/\w'.cell? ⟨w.heap.size,2,none⟩=some (bh e.nm)/\w'.cell? ⟨w.heap.size,7,none⟩=some (bi (some ad) 1 c2)/\w'.cell? ad=some (bd be a.k)/\w'.cell? ⟨ad.block,ad.off+1,none⟩=some (bd be a.op)/\w'.cell? ⟨ad.block,ad.off+2,none⟩=some (bh a.nm)/\w'.cell? ⟨ad.block,ad.off+3,none⟩=some (bd be a.v.k)/\w'.cell? ⟨ad.block,ad.off+4,none⟩=some (bd be a.v.n)/\w'.cell? ⟨ad.block,ad.off+5,none⟩=some (bh a.v.s)/\w'.cell? ⟨ad.block,ad.off+6,none⟩=some (bi A3 a.v.l.length c3)/\w'.cell? ⟨ad.block,ad.off+7,none⟩=some (bi A4 a.ar.length c4)/\DD W w' from λ w' x=>⟨Below.cell_of x iF,Below.cell_of x iG,Below.cell_of x gX,Below.cell_of x Lu,Below.cell_of x LC,Below.cell_of x LD,Below.cell_of x LH,Below.cell_of x LJ,Below.cell_of x LK,Below.cell_of x LM,Below.cell_of x LP,x⟩);have d:DD W W:=Below.refl _ _;clear B0;go_upto_region 9 with (fail);refine wp_region_noPanic ?_;refine wp_region_held_drew (S:=(λ w'=>w'.cell? ⟨w.heap.size,1,none⟩=some (bd be e.op)/\w'.cell? ⟨w.heap.size,2,none⟩=some (bh e.nm)/\w'.cell? ⟨w.heap.size,7,none⟩=some (bi (some ad) 1 c2)/\w'.cell? ad=some (bd be a.k)/\w'.cell? ⟨ad.block,ad.off+1,none⟩=some (bd be a.op)/\w'.cell? ⟨ad.block,ad.off+2,none⟩=some (bh a.nm)/\w'.cell? ⟨ad.block,ad.off+3,none⟩=some (bd be a.v.k)/\w'.cell? ⟨ad.block,ad.off+4,none⟩=some (bd be a.v.n)/\w'.cell? ⟨ad.block,ad.off+5,none⟩=some (bh a.v.s)/\w'.cell? ⟨ad.block,ad.off+6,none⟩=some (bi A3 a.v.l.length c3)/\w'.cell? ⟨ad.block,ad.off+7,none⟩=some (bi A4 a.ar.length c4)/\DD W w')) (by kernel_rfl) ?_ (λ f=>?_)
 . ((try dsimp only);(first | exact c.o _ d.drew | exact c.o _ d | exact c.o _ m | exact c.o _ n | exact c.o _ g))
 refine wpAnyH_take (i:=1) (v:=?v1) rfl (by kernel_rfl) (by kernel_rfl) (by kernel_rfl) (λ _ _ _ h=>h) (bo ⟨by rfl,?y1⟩) (by assumption) ?r1
 case y1=>(intro w p;(try dsimp only at p);go_simp;try with_reducible rfl)
 refine wpAnyH_take (i:=2) (v:=?v2) rfl (by kernel_rfl) (by kernel_rfl) (by kernel_rfl) (λ _ _ _ h=>h) (bo ⟨by rfl,?y2⟩) (by assumption) ?r2
 case y2=>(intro w p;(try dsimp only at p);go_simp;try with_reducible rfl)
 refine wpAnyH_take (i:=6) (v:=?v3) rfl (by kernel_rfl) (by kernel_rfl) (by kernel_rfl) (λ _ _ _ h=>h) (bo ⟨by rfl,?y3⟩) (by assumption) ?r3
 case y3=>(intro w p;(try dsimp only at p);go_simp;try with_reducible rfl)
 refine wpAnyH_take (i:=7) (v:=?v4) rfl (by kernel_rfl) (by kernel_rfl) (by kernel_rfl) (λ _ _ _ h=>h) (bo ⟨by rfl,?y4⟩) (by assumption) ?r4
 case y4=>(intro w p;(try dsimp only at p);go_simp;try with_reducible rfl)
 refine wpAnyH_take (i:=10) (v:=?v5) rfl (by kernel_rfl) (by kernel_rfl) (by kernel_rfl) (λ _ _ _ h=>h) (bo ⟨by rfl,?y5⟩) (by assumption) ?r5
 case y5=>(intro w p;(try dsimp only at p);go_simp;try with_reducible rfl)
 refine wpAnyH_take (i:=11) (v:=?v6) rfl (by kernel_rfl) (by kernel_rfl) (by kernel_rfl) (λ _ _ _ h=>h) (bo ⟨by rfl,?y6⟩) (by assumption) ?r6
 case y6=>(intro w p;(try dsimp only at p);go_simp;try with_reducible rfl)
 refine wpAnyH_take (i:=12) (v:=?v7) rfl (by kernel_rfl) (by kernel_rfl) (by kernel_rfl) (λ _ _ _ h=>h) (bo ⟨by rfl,?y7⟩) (by assumption) ?r7
 case y7=>(intro w p;(try dsimp only at p);go_simp;try with_reducible rfl)
 refine wpAnyH_take (i:=13) (v:=?v8) rfl (by kernel_rfl) (by kernel_rfl) (by kernel_rfl) (λ _ _ _ h=>h) (bo ⟨by rfl,?y8⟩) (by assumption) ?r8
 case y8=>(intro w p;(try dsimp only at p);go_simp;try with_reducible rfl)
 refine wpAnyH_ready (rs:=[0]) (by kernel_rfl) (by simp) ?_;refine bl rfl (λ K k=>?_) ?_
 .go_simp
  (first | (go_at_call 237;(with_reducible refine (z.o _ d.drew).mono ?_);rintro H G ⟨b,o,rfl,r,m,F⟩) | (go_at_call 237;(with_reducible refine (z.o _ n).mono ?_);rintro H G ⟨b,o,rfl,r,g,F⟩) | (go_at_call 212;(with_reducible refine (A.o _ d.drew).mono ?_);rintro e3 I ⟨rfl,n,y⟩) | (go_at_call 212;(with_reducible refine (A.o _ m).mono ?_);rintro e3 I ⟨rfl,g,y⟩;have Z:=Below.cell_of y r))
  try go_wp2_with fail
  refine k.out _ _ ?_ (λ f=>?_)
  . ((try dsimp only);(first | exact c.o _ d.drew | exact c.o _ d | exact c.o _ m | exact c.o _ n | exact c.o _ g))
  clear k K;refine wpAnyH_take (i:=3) (v:=?v9) rfl (by kernel_rfl) (by kernel_rfl) (by kernel_rfl) (λ _ _ _ h=>h) (bo ⟨by rfl,?y9⟩) (by assumption) ?r9
  case y9=>(intro w p;(try dsimp only at p);go_simp;try with_reducible rfl)
  refine wpAnyH_ready (rs:=[4,14]) (by kernel_rfl) (by simp) ?_;refine bl rfl (λ K k=>?_) ?_
  .go_simp
   try go_wp2_with fail
   refine k.out _ _ ?_ (λ f=>?_)
   . ((try dsimp only);(first | exact c.o _ d.drew | exact c.o _ d | exact c.o _ m | exact c.o _ n | exact c.o _ g))
   clear k K;refine wpAnyH_ready (rs:=[5,14]) (by kernel_rfl) (by simp) ?_;refine bl rfl (λ K k=>?_) ?_
   .go_simp
    try go_wp2_with fail
    refine k.out _ _ ?_ (λ f=>?_)
    . ((try dsimp only);(first | exact c.o _ d.drew | exact c.o _ d | exact c.o _ m | exact c.o _ n | exact c.o _ g))
    clear k K;refine wpAnyH_ready (rs:=[8,14]) (by kernel_rfl) (by simp) ?_;refine bl rfl (λ K k=>?_) ?_
    .go_simp
     try go_wp2_with fail
     refine k.out _ _ ?_ (λ f=>?_)
     . ((try dsimp only);(first | exact c.o _ d.drew | exact c.o _ d | exact c.o _ m | exact c.o _ n | exact c.o _ g))
     clear k K;refine wpAnyH_ready (rs:=[9,14]) (by kernel_rfl) (by simp) ?_;refine bl rfl (λ K k=>?_) ?_
     .go_simp
      try go_wp2_with fail
      refine k.out _ _ ?_ (λ f=>?_)
      . ((try dsimp only);(first | exact c.o _ d.drew | exact c.o _ d | exact c.o _ m | exact c.o _ n | exact c.o _ g))
      clear k K;refine wpAnyH_ready (rs:=[14]) (by kernel_rfl) (by simp) ?_;refine bl rfl (λ K k=>?_) ?_
      .go_simp
       (first | (go_at_call 237;(with_reducible refine (z.o _ d.drew).mono ?_);rintro H G ⟨b,o,rfl,r,m,F⟩) | (go_at_call 237;(with_reducible refine (z.o _ n).mono ?_);rintro H G ⟨b,o,rfl,r,g,F⟩) | (go_at_call 212;(with_reducible refine (A.o _ d.drew).mono ?_);rintro e3 I ⟨rfl,n,y⟩) | (go_at_call 212;(with_reducible refine (A.o _ m).mono ?_);rintro e3 I ⟨rfl,g,y⟩;have Z:=Below.cell_of y r))
       try go_wp2_with fail
       refine k.out _ _ ?_ (λ f=>?_)
       . ((try dsimp only);(first | exact c.o _ d.drew | exact c.o _ d | exact c.o _ m | exact c.o _ n | exact c.o _ g))
       clear k K;refine wpAnyH_ready (rs:=[15]) (by kernel_rfl) (by simp) ?_;refine bl rfl (λ K k=>?_) ?_
       .go_simp
        try go_wp2_with fail
        refine k.out _ _ ?_ (λ f=>?_)
        . ((try dsimp only);(first | exact c.o _ d.drew | exact c.o _ d | exact c.o _ m | exact c.o _ n | exact c.o _ g))
        clear k K;refine wpAnyH_ready (rs:=[16]) (by kernel_rfl) (by simp) ?_;refine bl rfl (λ K k=>?_) ?_
        .go_simp
         try go_wp2_with fail
         refine k.out _ _ ?_ (λ f=>?_)
         . ((try dsimp only);(first | exact c.o _ d.drew | exact c.o _ d | exact c.o _ m | exact c.o _ n | exact c.o _ g))
         clear k K;refine wpAnyH_take (i:=17) (v:=?v10) rfl (by kernel_rfl) (by kernel_rfl) (by kernel_rfl) (λ _ _ _ h=>h) (bo ⟨by rfl,?y10⟩) (by assumption) ?r10
         case y10=>(intro w p;(try dsimp only at p);go_simp;try with_reducible rfl)
         refine wpAnyH_done (by kernel_rfl) ?_ _;refine br ?_;have J:=q.trans (g.mono q.size);clear c z A;go_wp2_with fail;go_ret;exact⟨by rw[X.o];try rfl,J⟩
        exact bm
       exact bm
      exact bm
     refine bl rfl (λ K k=>?_) ?_
     .go_simp
      (first | (go_at_call 237;(with_reducible refine (z.o _ d.drew).mono ?_);rintro H G ⟨b,o,rfl,r,m,F⟩) | (go_at_call 237;(with_reducible refine (z.o _ n).mono ?_);rintro H G ⟨b,o,rfl,r,g,F⟩) | (go_at_call 212;(with_reducible refine (A.o _ d.drew).mono ?_);rintro e3 I ⟨rfl,n,y⟩) | (go_at_call 212;(with_reducible refine (A.o _ m).mono ?_);rintro e3 I ⟨rfl,g,y⟩;have Z:=Below.cell_of y r))
      try go_wp2_with fail
      refine k.out _ _ ?_ (λ f=>?_)
      . ((try dsimp only);(first | exact c.o _ d.drew | exact c.o _ d | exact c.o _ m | exact c.o _ n | exact c.o _ g))
      clear k K;refine wpAnyH_ready (rs:=[9]) (by kernel_rfl) (by simp) ?_;refine bl rfl (λ K k=>?_) ?_
      .go_simp
       try go_wp2_with fail
       refine k.out _ _ ?_ (λ f=>?_)
       . ((try dsimp only);(first | exact c.o _ d.drew | exact c.o _ d | exact c.o _ m | exact c.o _ n | exact c.o _ g))
       clear k K;refine wpAnyH_ready (rs:=[15]) (by kernel_rfl) (by simp) ?_;refine bl rfl (λ K k=>?_) ?_
       .go_simp
        try go_wp2_with fail
        refine k.out _ _ ?_ (λ f=>?_)
        . ((try dsimp only);(first | exact c.o _ d.drew | exact c.o _ d | exact c.o _ m | exact c.o _ n | exact c.o _ g))
        clear k K;refine wpAnyH_ready (rs:=[16]) (by kernel_rfl) (by simp) ?_;refine bl rfl (λ K k=>?_) ?_
        .go_simp
         try go_wp2_with fail
         refine k.out _ _ ?_ (λ f=>?_)
         . ((try dsimp only);(first | exact c.o _ d.drew | exact c.o _ d | exact c.o _ m | exact c.o _ n | exact c.o _ g))
         clear k K;refine wpAnyH_take (i:=17) (v:=?v11) rfl (by kernel_rfl) (by kernel_rfl) (by kernel_rfl) (λ _ _ _ h=>h) (bo ⟨by rfl,?y11⟩) (by assumption) ?r11
         case y11=>(intro w p;(try dsimp only at p);go_simp;try with_reducible rfl)
         refine wpAnyH_done (by kernel_rfl) ?_ _;refine br ?_;have J:=q.trans (g.mono q.size);clear c z A;go_wp2_with fail;go_ret;exact⟨by rw[X.o];try rfl,J⟩
        exact bm
       exact bm
      exact bm
     exact bm
    refine bl rfl (λ K k=>?_) ?_
    .go_simp
     (first | (go_at_call 237;(with_reducible refine (z.o _ d.drew).mono ?_);rintro H G ⟨b,o,rfl,r,m,F⟩) | (go_at_call 237;(with_reducible refine (z.o _ n).mono ?_);rintro H G ⟨b,o,rfl,r,g,F⟩) | (go_at_call 212;(with_reducible refine (A.o _ d.drew).mono ?_);rintro e3 I ⟨rfl,n,y⟩) | (go_at_call 212;(with_reducible refine (A.o _ m).mono ?_);rintro e3 I ⟨rfl,g,y⟩;have Z:=Below.cell_of y r))
     try go_wp2_with fail
     refine k.out _ _ ?_ (λ f=>?_)
     . ((try dsimp only);(first | exact c.o _ d.drew | exact c.o _ d | exact c.o _ m | exact c.o _ n | exact c.o _ g))
     clear k K;refine wpAnyH_ready (rs:=[8]) (by kernel_rfl) (by simp) ?_;refine bl rfl (λ K k=>?_) ?_
     .go_simp
      try go_wp2_with fail
      refine k.out _ _ ?_ (λ f=>?_)
      . ((try dsimp only);(first | exact c.o _ d.drew | exact c.o _ d | exact c.o _ m | exact c.o _ n | exact c.o _ g))
      clear k K;refine wpAnyH_ready (rs:=[9]) (by kernel_rfl) (by simp) ?_;refine bl rfl (λ K k=>?_) ?_
      .go_simp
       try go_wp2_with fail
       refine k.out _ _ ?_ (λ f=>?_)
       . ((try dsimp only);(first | exact c.o _ d.drew | exact c.o _ d | exact c.o _ m | exact c.o _ n | exact c.o _ g))
       clear k K;refine wpAnyH_ready (rs:=[15]) (by kernel_rfl) (by simp) ?_;refine bl rfl (λ K k=>?_) ?_
       .go_simp
        try go_wp2_with fail
        refine k.out _ _ ?_ (λ f=>?_)
        . ((try dsimp only);(first | exact c.o _ d.drew | exact c.o _ d | exact c.o _ m | exact c.o _ n | exact c.o _ g))
        clear k K;refine wpAnyH_ready (rs:=[16]) (by kernel_rfl) (by simp) ?_;refine bl rfl (λ K k=>?_) ?_
        .go_simp
         try go_wp2_with fail
         refine k.out _ _ ?_ (λ f=>?_)
         . ((try dsimp only);(first | exact c.o _ d.drew | exact c.o _ d | exact c.o _ m | exact c.o _ n | exact c.o _ g))
         clear k K;refine wpAnyH_take (i:=17) (v:=?v12) rfl (by kernel_rfl) (by kernel_rfl) (by kernel_rfl) (λ _ _ _ h=>h) (bo ⟨by rfl,?y12⟩) (by assumption) ?r12
         case y12=>(intro w p;(try dsimp only at p);go_simp;try with_reducible rfl)
         refine wpAnyH_done (by kernel_rfl) ?_ _;refine br ?_;have J:=q.trans (g.mono q.size);clear c z A;go_wp2_with fail;go_ret;exact⟨by rw[X.o];try rfl,J⟩
        exact bm
       exact bm
      exact bm
     exact bm
    exact bm
   refine bl rfl (λ K k=>?_) ?_
   .go_simp
    (first | (go_at_call 237;(with_reducible refine (z.o _ d.drew).mono ?_);rintro H G ⟨b,o,rfl,r,m,F⟩) | (go_at_call 237;(with_reducible refine (z.o _ n).mono ?_);rintro H G ⟨b,o,rfl,r,g,F⟩) | (go_at_call 212;(with_reducible refine (A.o _ d.drew).mono ?_);rintro e3 I ⟨rfl,n,y⟩) | (go_at_call 212;(with_reducible refine (A.o _ m).mono ?_);rintro e3 I ⟨rfl,g,y⟩;have Z:=Below.cell_of y r))
    try go_wp2_with fail
    refine k.out _ _ ?_ (λ f=>?_)
    . ((try dsimp only);(first | exact c.o _ d.drew | exact c.o _ d | exact c.o _ m | exact c.o _ n | exact c.o _ g))
    clear k K;refine wpAnyH_ready (rs:=[5]) (by kernel_rfl) (by simp) ?_;refine bl rfl (λ K k=>?_) ?_
    .go_simp
     try go_wp2_with fail
     refine k.out _ _ ?_ (λ f=>?_)
     . ((try dsimp only);(first | exact c.o _ d.drew | exact c.o _ d | exact c.o _ m | exact c.o _ n | exact c.o _ g))
     clear k K;refine wpAnyH_ready (rs:=[8]) (by kernel_rfl) (by simp) ?_;refine bl rfl (λ K k=>?_) ?_
     .go_simp
      try go_wp2_with fail
      refine k.out _ _ ?_ (λ f=>?_)
      . ((try dsimp only);(first | exact c.o _ d.drew | exact c.o _ d | exact c.o _ m | exact c.o _ n | exact c.o _ g))
      clear k K;refine wpAnyH_ready (rs:=[9]) (by kernel_rfl) (by simp) ?_;refine bl rfl (λ K k=>?_) ?_
      .go_simp
       try go_wp2_with fail
       refine k.out _ _ ?_ (λ f=>?_)
       . ((try dsimp only);(first | exact c.o _ d.drew | exact c.o _ d | exact c.o _ m | exact c.o _ n | exact c.o _ g))
       clear k K;refine wpAnyH_ready (rs:=[15]) (by kernel_rfl) (by simp) ?_;refine bl rfl (λ K k=>?_) ?_
       .go_simp
        try go_wp2_with fail
        refine k.out _ _ ?_ (λ f=>?_)
        . ((try dsimp only);(first | exact c.o _ d.drew | exact c.o _ d | exact c.o _ m | exact c.o _ n | exact c.o _ g))
        clear k K;refine wpAnyH_ready (rs:=[16]) (by kernel_rfl) (by simp) ?_;refine bl rfl (λ K k=>?_) ?_
        .go_simp
         try go_wp2_with fail
         refine k.out _ _ ?_ (λ f=>?_)
         . ((try dsimp only);(first | exact c.o _ d.drew | exact c.o _ d | exact c.o _ m | exact c.o _ n | exact c.o _ g))
         clear k K;refine wpAnyH_take (i:=17) (v:=?v13) rfl (by kernel_rfl) (by kernel_rfl) (by kernel_rfl) (λ _ _ _ h=>h) (bo ⟨by rfl,?y13⟩) (by assumption) ?r13
         case y13=>(intro w p;(try dsimp only at p);go_simp;try with_reducible rfl)
         refine wpAnyH_done (by kernel_rfl) ?_ _;refine br ?_;have J:=q.trans (g.mono q.size);clear c z A;go_wp2_with fail;go_ret;exact⟨by rw[X.o];try rfl,J⟩
        exact bm
       exact bm
      exact bm
     exact bm
    exact bm
   exact bm
  refine bl rfl (λ K k=>?_) ?_
  .go_simp
   (first | (go_at_call 237;(with_reducible refine (z.o _ d.drew).mono ?_);rintro H G ⟨b,o,rfl,r,m,F⟩) | (go_at_call 237;(with_reducible refine (z.o _ n).mono ?_);rintro H G ⟨b,o,rfl,r,g,F⟩) | (go_at_call 212;(with_reducible refine (A.o _ d.drew).mono ?_);rintro e3 I ⟨rfl,n,y⟩) | (go_at_call 212;(with_reducible refine (A.o _ m).mono ?_);rintro e3 I ⟨rfl,g,y⟩;have Z:=Below.cell_of y r))
   try go_wp2_with fail
   refine k.out _ _ ?_ (λ f=>?_)
   . ((try dsimp only);(first | exact c.o _ d.drew | exact c.o _ d | exact c.o _ m | exact c.o _ n | exact c.o _ g))
   clear k K;refine wpAnyH_ready (rs:=[4]) (by kernel_rfl) (by simp) ?_;refine bl rfl (λ K k=>?_) ?_
   .go_simp
    try go_wp2_with fail
    refine k.out _ _ ?_ (λ f=>?_)
    . ((try dsimp only);(first | exact c.o _ d.drew | exact c.o _ d | exact c.o _ m | exact c.o _ n | exact c.o _ g))
    clear k K;refine wpAnyH_ready (rs:=[5]) (by kernel_rfl) (by simp) ?_;refine bl rfl (λ K k=>?_) ?_
    .go_simp
     try go_wp2_with fail
     refine k.out _ _ ?_ (λ f=>?_)
     . ((try dsimp only);(first | exact c.o _ d.drew | exact c.o _ d | exact c.o _ m | exact c.o _ n | exact c.o _ g))
     clear k K;refine wpAnyH_ready (rs:=[8]) (by kernel_rfl) (by simp) ?_;refine bl rfl (λ K k=>?_) ?_
     .go_simp
      try go_wp2_with fail
      refine k.out _ _ ?_ (λ f=>?_)
      . ((try dsimp only);(first | exact c.o _ d.drew | exact c.o _ d | exact c.o _ m | exact c.o _ n | exact c.o _ g))
      clear k K;refine wpAnyH_ready (rs:=[9]) (by kernel_rfl) (by simp) ?_;refine bl rfl (λ K k=>?_) ?_
      .go_simp
       try go_wp2_with fail
       refine k.out _ _ ?_ (λ f=>?_)
       . ((try dsimp only);(first | exact c.o _ d.drew | exact c.o _ d | exact c.o _ m | exact c.o _ n | exact c.o _ g))
       clear k K;refine wpAnyH_ready (rs:=[15]) (by kernel_rfl) (by simp) ?_;refine bl rfl (λ K k=>?_) ?_
       .go_simp
        try go_wp2_with fail
        refine k.out _ _ ?_ (λ f=>?_)
        . ((try dsimp only);(first | exact c.o _ d.drew | exact c.o _ d | exact c.o _ m | exact c.o _ n | exact c.o _ g))
        clear k K;refine wpAnyH_ready (rs:=[16]) (by kernel_rfl) (by simp) ?_;refine bl rfl (λ K k=>?_) ?_
        .go_simp
         try go_wp2_with fail
         refine k.out _ _ ?_ (λ f=>?_)
         . ((try dsimp only);(first | exact c.o _ d.drew | exact c.o _ d | exact c.o _ m | exact c.o _ n | exact c.o _ g))
         clear k K;refine wpAnyH_take (i:=17) (v:=?v14) rfl (by kernel_rfl) (by kernel_rfl) (by kernel_rfl) (λ _ _ _ h=>h) (bo ⟨by rfl,?y14⟩) (by assumption) ?r14
         case y14=>(intro w p;(try dsimp only at p);go_simp;try with_reducible rfl)
         refine wpAnyH_done (by kernel_rfl) ?_ _;refine br ?_;have J:=q.trans (g.mono q.size);clear c z A;go_wp2_with fail;go_ret;exact⟨by rw[X.o];try rfl,J⟩
        exact bm
       exact bm
      exact bm
     exact bm
    exact bm
   exact bm
  exact bm
 exact bm
theorem YL (e:Ex):e.fault=0->e.parts<=900000->eu 212 e:=by
 induction e using Ex.ind with
 | h e ih =>
  intro q t B cs w g m b i;have r:=parts_eq e;have j:∀ a∈e.ar,eu 212 a:=λ a o=>ih a o (vZ q a o) (by have:=xQ o;omega);have p:∀ a∈e.ar,a.text.length+100<=1000*a.parts:=λ a o=>Tm a (vZ q a o);have f:∀ a∈e.ar,a.text.length<=1000000000:=λ a o=>by have:=p a o;have:=xQ o;omega
  have k:∀ l,((insL l e.ar).map bv).sum+98*e.ar.length<=999999000:=λ l=>by have:=(qN l p).1;omega
  have c:e.ar.length<=999999:=by have:=Ak e.ar;omega
  have d:=rY q;have P:=kJ d;have u:=P.k;by_cases k1:e.k=1
  .exact afj e k1 j f k c d B cs w g m b i
  by_cases k2:e.k=2
  .exact afk e k2 j f k c d B cs w g m b i
  by_cases k3:e.k=3
  .exact afl e k3 j f k c d B cs w g m b i
  by_cases k5:e.k=5
  .exact Vl e k5 j f k c d B cs w g m b i
  have n:e.k=4:=by omega
  have s:=P.op4 n;by_cases o1:e.op=1
  .exact YC e n o1 j f k c d B cs w g m b i
  by_cases o2:e.op=2
  .exact Yz e n o2 j f k c d B cs w g m b i
  by_cases o3:e.op=3
  .exact acC e n o3 j f k c d B cs w g m b i
  by_cases o4:4<=e.op/\e.op<=11
  .exact YA e n o4 j f k c d B cs w g m b i
  by_cases o5:e.op=15\/e.op=16
  .exact YB e n o5 j f k c d B cs w g m b i
  by_cases o6:e.op=17\/e.op=18\/e.op=19
  .exact Vk e n o6 j f k c d B cs w g m b i
  by_cases o7:e.op=20
  .exact YD e n o7 j f k c d B cs w g m b i
  exact YE e n (by omega) j f k c d B cs w g m b i
noncomputable def yj (e:Ex):List UInt8 × Int:=if dR e≠0 then ([],dR e) else if 4000<e.text.length then ([],2) else (e.text,0)
theorem N9 {e:Ex} (h:dR e=0):e.fault=0/\e.parts<=300:=by
 unfold dR at h;by_cases c:300<e.parts\/20<e.depth
 .rw[if_pos c] at h;exact absurd h (by decide)
 .rw[if_neg c] at h;exact⟨h,by omega⟩
theorem Vm (e:Ex) (B:Nat) (cs:List Value) (w:World) (D:bC w B e cs) (G:B<=w.heap.size) (F:e.parts<=100000000) (j:Tab w) (O:Mx w) :
  CS 175 #[.agg cs.toArray] w (.tuple #[bh (tx (yj e).1),bd be (yj e).2]):=by
 have S:=qh D;have P:=qh (λ w' (g:DD w w')=>bp (aB j g) (O.below g));obtain⟨R,q⟩:=af (yj e);obtain⟨R1,R2⟩:=R;rw[q];obtain⟨hn,Z,hl,ha,D,U,Q⟩:=D;rename_i A1 c1 A2 c2 cs;have H:=qh (λ w' (g:DD w w')=>S.o.keep (g.mono G));have M:=qh F;clear D U Q j O F;obtain⟨f,i⟩:=af (dR e);show Calls lM 175 #[.agg (Ag e A1 c1 A2 e.ar.length c2)] w _;by_cases f0:f=0;rotate_left
 .have bf:(f != 0)=true:=by simpa using f0
  have E:=qh (show ([],f)=(R1,R2) by rw[<- q];unfold yj;rw[if_pos (by rw[i];exact f0),i]);have J:=qh i;clear q i f0;go_enter func175,ntmps175;go_upto_region 1 with (fail);obtain⟨W,b⟩:=aG ((w.alloc (.cells (Ag e A1 c1 A2 e.ar.length c2) 67 (0,0))));have a:DD w W:=by rw[b];exact ((Below.refl _ w).alloc (bq _) _)
  have B0:ah W (w.heap.size) 67 (Ag e A1 c1 A2 e.ar.length c2):=by
   rw[b];have:=ah.new w 67 (Ag e A1 c1 A2 e.ar.length c2);exact this
  have l:W.heap.size=w.heap.size+1:=by rw[b];simp
  rw[<- b];obtain⟨A,v,y,z,r,u,o,p⟩:=ah.c8 B0;clear b l B0;go_wp2_with fail;refine (mX e B _ W (H.o W a) (bn G a.size) M.o).mono ?_;rw[J.o];rintro C T ⟨rfl,n⟩;clear A v y z r u o p;go_wp2_with fail;go_ret2;exact⟨by have h:=E.o;injection h with h1 h2;rw[<- h1,<- h2];rfl,a.trans (n.mono a.size)⟩
 subst f0;obtain⟨K,F⟩:=N9 i;have L:=Tm e K;obtain⟨t,d⟩:=af (tx e.text);have s:t.size=e.text.length:=by rw[<- d,kG]
 have N:=qh (λ w' (g:DD w w')=>YL e K (by omega) B _ w' (H.o w' g) (bn G g.size) (P.o w' g).1 (P.o w' g).2);simp only[d] at N;have E:=qh (show (if 4000<t.size then (([]:List UInt8),(2:Int)) else (e.text,0))=(R1,R2) by rw[<- q,s];unfold yj;rw[if_neg (show ¬ dR e≠0 by rw[i];decide)]);have X:=qh d;have J:=qh i;have Y:t.size<=300000:=by omega
 clear q i d s L K F;go_enter func175,ntmps175;go_upto_region 1 with (fail);obtain⟨W,b⟩:=aG ((w.alloc (.cells (Ag e A1 c1 A2 e.ar.length c2) 67 (0,0))));have a:DD w W:=by rw[b];exact ((Below.refl _ w).alloc (bq _) _)
 have B0:ah W (w.heap.size) 67 (Ag e A1 c1 A2 e.ar.length c2):=by
  rw[b];have:=ah.new w 67 (Ag e A1 c1 A2 e.ar.length c2);exact this
 have l:W.heap.size=w.heap.size+1:=by rw[b];simp
 rw[<- b];obtain⟨A,v,y,z,r,u,o,p⟩:=ah.c8 B0;clear b l;go_wp2_with fail;refine (mX e B _ W (H.o W a) (bn G a.size) M.o).mono ?_;rw[J.o];rintro C V ⟨rfl,k⟩;have I:=a.trans (k.mono a.size);have B0:=B0.below k B0.lt;clear A v y z r u o p k;obtain⟨A,v,y,z,r,u,o,p⟩:=ah.c8 B0;clear B0;go_wp2_with fail;refine (N.o V I).mono ?_;rintro C T ⟨rfl,n⟩;clear A v y z r u o p;have x:=I.trans (n.mono I.size);by_cases c:4000<t.size
 .have c':(4000:Int)<(t.size:Nat):=by omega
  have m:=qh (show (([]:List UInt8),(2:Int))=(R1,R2) by rw[<- E.o,if_pos c]);clear c;go_wp2_with fail;go_ret2;exact⟨by have h:=m.o;injection h with h1 h2;rw[<- h1,<- h2];rfl,x⟩
 .have c':¬ (4000:Int)<(t.size:Nat):=by omega
  have m:=qh (show (e.text,(0:Int))=(R1,R2) by rw[<- E.o,if_neg c]);clear c;go_wp2_with fail;go_ret2;exact⟨by have h:=m.o;injection h with h1 h2;rw[<- h1,<- h2,X.o];try rfl,x⟩
theorem Vo (f:List bu) (b:List bU) (j l:List (ByteArray × Value)) (k m:Nat) (s:∀ d∈b,d.loops.length<=1048576) (e:Ex):e.fault=0->Qr f b j l k m e:=by
 induction e using Ex.ind with
 | h e ih =>
  intro t B at_ A c cs w n p o g q r;have P:=kJ (rY t);have u:=λ a h=>ih a h (vZ t a h);have i:=P.k;obtain i | i | i | i | i:e.k=1\/e.k=2\/e.k=3\/e.k=4\/e.k=5:=by omega
  .exact acb e f b i j l k m B at_ A c cs w n p o g q r
  .exact ace e f b i j l k m B at_ A c cs w n p o g q r
  .exact acd e f b i j l k m B at_ A c cs w n p o g q r
  .exact acg e f b i j l k m B at_ A c cs w P u n p o g q r
  .exact aci e f b i j l k m B at_ A c cs w P u s n p o g q r
def vK (e:Ex) (cells:List bu) (loops:List bU) (at_:List ByteArray):Int × Int:=
 if dR e≠0 then (0,dR e) else if fO cells loops≠0 then (0,fO cells loops) else if jy loops at_=false then (0,9) else e.kind cells loops at_
theorem JW {e:Ex} (h:dR e=0):e.fault=0:=by
 unfold dR at h;split at h
 .exact absurd h (by decide)
 .exact h
theorem QK (e:Ex) (b:List bu) (a:List bU) (X U:Option Addr) (cc cn B:Nat) (at_:List ByteArray) (A:Option Addr) (c:Nat) (cs:List Value) (w:World) (V:bC w B e cs) (hC:eX w B X b) (hN:qj w B U a) (ha:at_.length<=maxLen) (O:dA w B A at_) (hc:at_.length<=c) (hB:B<=w.heap.size) (hp:e.parts<=1000000) (M:∀ d∈a,d.loops.length<=1048576) (hs:∀ s∈at_,s.size<=maxLen) :
  CS 178 #[.agg cs.toArray,bi X b.length cc,bi U a.length cn,bi A at_.length c] w (.tuple #[bd be (vK e b a at_).1,bd be (vK e b a at_).2]):=by
 have HX:=qh V;have K:=qh (bp hC hN);have f:=qh (bp ha (bp O (bp hc hB)));have SY:=qh M;obtain⟨hn,am,hl,al,V,hr,hi⟩:=V;rename_i A1 c1 A2 c2 cs;have HS:=qh hs;clear hs V hr hi hC hN O hB M;show Calls lM 178 #[.agg (Ag e A1 c1 A2 e.ar.length c2),bi X b.length cc,bi U a.length cn,bi A at_.length c] w _;go_enter func178,ntmps178;go_upto_region 1 with (fail);obtain⟨W,J⟩:=aG ((w.alloc (.cells (Ag e A1 c1 A2 e.ar.length c2) 67 (0,0))));have m:DD w W:=by rw[J];exact ((Below.refl _ w).alloc (bq _) _)
 have B0:ah W (w.heap.size) 67 (Ag e A1 c1 A2 e.ar.length c2):=by
  rw[J];have:=ah.new w 67 (Ag e A1 c1 A2 e.ar.length c2);exact this
 have ae:W.heap.size=w.heap.size+1:=by rw[J];simp
 rw[<- J];clear J ae;obtain⟨iE,iF,iG,iH,iI,iJ,iK,Y⟩:=ah.c8 B0;go_wp2_with fail;obtain⟨f1,x⟩:=af (dR e);have T:=qh x;refine (mX e B _ W (HX.o.keep (m.mono f.o.2.2.2)) (bn f.o.2.2.2 m.size) (by omega)).mono ?_;rw[x];rintro G i ⟨rfl,r⟩;have L:=m.trans (r.mono m.size);have B0:=B0.below r B0.lt;clear iE iF iG iH iI iJ iK Y r x;by_cases h0:f1=0;rotate_left
 .have bg:(f1 != 0)=true:=by simpa using h0
  have u:=qh (show vK e b a at_=(0,f1) by unfold vK;rw[T.o,if_pos h0]);clear h0;go_wp2_with fail;go_ret2;exact⟨by rw[u.o];try rfl,L⟩
 subst h0;have ak:=bn f.o.2.2.2 L.size;obtain⟨f2,R⟩:=af (fO b a);have n:=qh R;have P:=L.mono f.o.2.2.2;clear R;go_upto_region 4 with (fail);have N:=qh (MS b a X cc U cn B i (K.o.1.keep P) (K.o.2.keep P) ak);go_wp2_with fail;refine N.o.mono ?_;rintro G p ⟨⟨z,rfl,F,o⟩,v⟩;rw[n.o] at F;subst F;have D:=qh o;have g:=L.trans (v.mono L.size);have B0:=B0.below v B0.lt;clear o v N;by_cases h0:z=0;rotate_left
 .have bg:(z != 0)=true:=by simpa using h0
  have u:=qh (show vK e b a at_=(0,z) by unfold vK;rw[T.o,n.o,if_neg (by decide),if_pos h0]);clear h0;go_wp2_with fail;go_ret2;exact⟨by rw[u.o];try rfl,g.alloc g.size _⟩
 subst h0;obtain⟨lC,lI,S,Q,I,E⟩:=D.o rfl;have y:=qh (show SX p B (i.heap.size+1) (i.heap.size+1+1) lC lI b a from ⟨S,I,Q,E⟩);clear S Q I E D;obtain⟨q,hq⟩:=af (jy a at_);have HQ:=qh hq;obtain⟨W3,l⟩:=aG (p.alloc (.cells #[.map (some (i.heap.size+1)),.map (some (i.heap.size+1+1))] 162 (0,0)));have k:DD p W3:=l▸(Below.refl _ p).alloc (bq _) _;have B3:ah W3 p.heap.size 162 #[.map (some (i.heap.size+1)),.map (some (i.heap.size+1+1))]:=l▸ah.new p _ _;have h:=g.trans (k.mono g.size);have B0:=B0.below k B0.lt;have ag:=bn f.o.2.2.2 g.size;have H:=bn f.o.2.2.2 h.size;have y:=qh (y.o.keep k ag);have t:=qh (xR at_ A c (i.heap.size+1) (i.heap.size+1+1) B lI a W3 f.o.1 HS.o (f.o.2.1.below (h.mono f.o.2.2.2)) f.o.2.2.1 H y.o.n y.o.nn);rw[hq] at t;clear hq;go_wp2_with fail;rw[<- l];clear l k;refine t.o.mono ?_;rintro G W4 ⟨rfl,j⟩;have C:=h.trans (j.mono h.size);have ad:=bn f.o.2.2.2 C.size;have y:=qh (y.o.keep j H);have B0:=B0.below j B0.lt;have B3:=B3.below j B3.lt;clear t j;cases q
 .have u:=qh (show vK e b a at_=(0,9) by unfold vK;rw[T.o,n.o,if_neg (by decide),if_neg (by decide),if_pos HQ.o]);go_wp2_with fail;go_ret2;exact⟨by rw[u.o];try rfl,C⟩
 .have u:=qh (show vK e b a at_=e.kind b a at_ by unfold vK;rw[T.o,n.o,if_neg (by decide),if_neg (by decide),if_neg (by rw[HQ.o];decide)]);have aa:=qh (Vo b a lC lI (i.heap.size+1) (i.heap.size+1+1) SY.o e (JW T.o) B at_ A c _ W4 (HX.o.keep (C.mono f.o.2.2.2)) y.o f.o.1 (f.o.2.1.below (C.mono f.o.2.2.2)) f.o.2.2.1 ad);obtain⟨iE,iF,iG,iH,iI,iJ,iK,Y⟩:=ah.c8 B0;obtain⟨ab,Z⟩:=ah.c2 B3;clear B0 B3;go_wp2_with fail;refine aa.o.mono ?_;rintro G W5 ⟨rfl,ac⟩;clear iE iF iG iH iI iJ iK Y ab Z;go_wp2_with fail;go_ret2;exact⟨by rw[u.o];try rfl,C.trans (ac.mono C.size)⟩
end
section
open Go.RowKit
theorem Dv {P:Program} {w:World} {base n size:Nat} {t ty e:TypeId} {i:TypeInfo} {v:Value} {xs:List Value} (f:P.underlying t=some (.slice e)) (d:P.info? e=some i) (_:i.size=size) (a:w.ownsRow base e size v n xs) :
  (Builtin.append_ #[t,t] ty #[v,bi none 0 0]).run P w = .ok v w:=by
 rcases a.2 with ⟨rfl,rfl⟩ | ⟨g,cap,h,rfl,k,o,b,j,l,c⟩
 .simp[Builtin.append_,run_underlying f,sizeOf,typeInfo,d,Builtin.lenOf,Builtin.firstCells]
 .have m:n+0<=cap:=b;simp[Builtin.append_,run_underlying f,sizeOf,typeInfo,d,Builtin.lenOf,Builtin.firstCells,loadCells,b,storeCells]
theorem yl {P:Program} {w:World} {f:Array Oper} {b:List Oper} {o:Oper} {a:Act} {Q:Exit->Act->World->Prop} (g:o.guard=none) (s x:Operand) (t:TypeId)
  (p:o.op = .call { callee:=.builtin .append,args:=#[s,x],argTypes:=#[t,t] })
  (base:Nat) (e:TypeId) (i:TypeInfo) (size:Nat) (k:P.underlying t=some (.slice e)) (j:P.info? e=some i) (c:i.size=size)
  (v:Value) (n:Nat) (xs:List Value) (m:a.eval s=v) (d:w.ownsRow base e size v n xs) (l:a.eval x = bi none 0 0)
  (h:wpList P f Q b (a.put o.dst v) w):wpList P f Q (o :: b) a w:=by
 refine wpList_plain g λ _ q=>?_;have r:=Dv (P:=P) (w:=w) (ty:=o.type) k j c d;unfold Oper.wp execOp;simp only[p,resolve,invoke,builtin,Sem.run_bind,Sem.run_pure,Result.andThen_ok,List.map_toArray,List.map_cons,List.map_nil,m,l,r];exact q _ _ h
attribute [local go_sem ↓] Go.wp_at_zero Go.wp_at_succ ld_item st_item ld_node st_node ld_ans st_ans ld_part st_part ld_rule st_rule ld_form st_form
theorem Vq {w:World} {B0 k y D r:Nat} {x:jS} {f:aI} {N:List au} {K:aY} (h:aT w B0 k y D r x f N K) {p l j n i:Nat} (o:gW N) (b:w.cell? ⟨p,0,none⟩=some (bj (some ⟨k,0,none⟩))) (d:w.cell? ⟨l,0,none⟩=some (bj (some ⟨p,0,none⟩))) (g:w.cell? ⟨j,0,none⟩=some (bd be n)) (C:n<N.length) (q:i<N.length) :
  CS 177 (#[bd be i] ++ #[bj (some ⟨l,0,none⟩),bj (some ⟨j,0,none⟩)]) w (.bool (iW N i n)):=by
 have H:=qh h;have s:=qh o;obtain⟨u,a⟩:=af (iW N i n);have m:=qh (Later.call (W:=w) (f:=174) (args:=#[bj (some ⟨k,0,none⟩),bd be i,bd be n]) (v:=.bool u) λ w' B=>(wK (H.o.keep B) s.o i n q C).mono λ _ _ ⟨t,G⟩=>⟨by rw[t,a],G⟩);have z:=Later.cell b;have F:=Later.cell d;have A:=Later.cell g;rw[a];clear h o b d g a;show Calls lM 177 #[bd be i,bj (some ⟨l,0,none⟩),bj (some ⟨j,0,none⟩)] w _;go_enter func177,ntmps177;go_upto_region 1 with (fail);refine aU (by kernel_rfl) (by kernel_rfl) ?_
 repeat (go_big_quiet_step (first | (with_reducible exact m.o _)))
 refine wpQuiet_nil ?_;intro I c;have E:=iQ c;clear c m z F A;go_wp2;go_ret;exact⟨rfl,E⟩
theorem afp (e:Ex):XX e=(yj e).2:=by
 unfold XX yj;split
 .rfl
 .split <;> rfl
theorem YM (e:Ex) (b:List bu) (a:List bU) (at_:List ByteArray):aeg e b a at_=vK e b a at_:=rfl
theorem vM {w:World} {B n c size:Nat} {A:Option Addr} {e:TypeId} {xs:List Value} (h:w.ownsRow B e size (bi A n c) n xs):n<=c:=by
 rcases h.2 with ⟨d,-⟩ | ⟨i,b,a,g,-,-,f,-⟩
 .injection d with _ f h2;omega
 .injection g with _ h2 h3;omega
theorem YN {w:World} {B0 k l n b:Nat} {x:jS} {f:aI} {N:List au} {K:aY} (h:aT w B0 k l n b x f N K):∀ d∈jG N,d.loops.length<=1048576:=by
 intro d o;obtain⟨y,m,rfl⟩:=List.mem_map.1 o;obtain⟨i,a,rfl⟩:=List.mem_iff_getElem.1 (List.mem_filter.1 m).1;obtain⟨ad,cs,e,q,⟨p,A,c,rfl,hit,j,g,-⟩,r⟩:=h.nodes.at_ a;show N[i].lo.length<=1048576;omega
theorem QL {d a:World} {B:Nat} {v j:Value} {l more:List bu} {xs b:List Value} (c:d.ownsRow B 51 3 v l.length xs) (f:∀ i (h:i<l.length),CP d B l[i] ((xs.drop (i*3)).take 3)) (t:d.grownBy a v.ownBlock)
  (g:a.ownsRow B 51 3 j (l.length+more.length) (xs ++ b)) (r:∀ i (h:i<more.length),nP a a.heap.size more[i] ((b.drop (i*3)).take 3)) (o:l.length+more.length<=maxLen) :
  ∃ A4 c4,j = bi A4 (l ++ more).length c4/\eX a a.heap.size A4 (l ++ more)/\(l ++ more).length<=c4:=by
 obtain⟨A4,c4,rfl⟩:=dX g;have q:xs.length=l.length*3:=c.1;refine⟨A4,c4,by rw[bs],⟨by rw[bs];exact o,xs ++ b,?_,λ i n=>?_⟩,?_⟩
 .rw[bs];exact Reads.fB g
 .rw[bs] at n;by_cases hlt:i<l.length
  .rw[List.getElem_append_left hlt,List.drop_append_of_le_length (by omega),List.take_append_of_le_length (by rw[List.length_drop];omega)];exact (gB.grown (f i hlt) c t).at_
  .have e:(xs ++ b).drop (i*3)=b.drop ((i - l.length)*3):=by
    rw[List.drop_append,bx (by omega),List.nil_append,q,<- Nat.sub_mul]
   rw[List.getElem_append_right (by omega),e];exact r (i - l.length) (by omega)
 .rw[bs];rcases g.2 with ⟨u,-⟩ | ⟨w,p,k,s,-,-,m,-⟩
  .injection u with _ c f;omega
  .injection s with _ c f;omega
theorem wU {w:World} {B0 S m1 m2 m3:Nat} {x:jS} {f:aI} {N:List au} {K:aY} (h:aT w B0 S m1 m2 m3 x f N K) {r:Nat} (am:w.cell? ⟨r,0,none⟩=some (bj (some ⟨S,0,none⟩))) (aM:r<w.heap.size) (hN:gW N) {more:List bu} {AM:Option Addr} {cm B n:Nat} {e:Ex} {cs:List Value} (ag:eX w w.heap.size AM more) (bb:(AM=none/\cm=0/\more = [])\/(∃ m,more = [m])) (hx:bC w B e cs) (hB:B<=w.heap.size) (hn:n<N.length)
  (hp:e.parts<=1000000) (T:Tab w) (aL:Mx w) :
  CS 120 #[bj (some ⟨r,0,none⟩),.agg cs.toArray,bd be n,bi AM more.length cm] w (.tuple #[bd be (bV N K n more e).1,bd be (bV N K n more e).2]):=by
 have HX:=qh hx;have H:=qh (bp h (bp am (bp aM (bp hN ag))));have a4:=hx;obtain⟨-,-,-,-,-,-,-⟩:=a4;rename_i A1 c1 A2 c2 cs;obtain⟨wb,z⟩:=aG (((w.alloc (.cells #[bj (some ⟨r,0,none⟩)] 153 (0,0))).alloc (.cells (Ag e A1 c1 A2 e.ar.length c2) 67 (0,0))).alloc (.cells #[bd be n] 3 (0,0)));have t:DD w wb:=z▸(((Below.refl w.heap.size w).alloc (bq _) _).alloc (by simp) _).alloc (by simp;omega) _;have ba:ah wb w.heap.size 153 #[bj (some ⟨r,0,none⟩)]:=z▸((ah.new w _ _).alloc _).alloc _;have q:ah wb (w.heap.size+1) 67 (Ag e A1 c1 A2 e.ar.length c2):=by
  have:=((ah.new (w.alloc (.cells #[bj (some ⟨r,0,none⟩)] 153 (0,0))) 67 (Ag e A1 c1 A2 e.ar.length c2)).alloc (.cells #[bd be n] 3 (0,0)));rw[z];simpa using this
 have aZ:ah wb (w.heap.size+1+1) 3 #[bd be n]:=by
  have:=(ah.new ((w.alloc (.cells #[bj (some ⟨r,0,none⟩)] 153 (0,0))).alloc (.cells (Ag e A1 c1 A2 e.ar.length c2) 67 (0,0))) 3 #[bd be n]);rw[z];simpa using this
 have U:=qh (show ∀ w',DD wb w'->w'.cell? ⟨r,0,none⟩=some (bj (some ⟨S,0,none⟩))/\w'.cell? ⟨w.heap.size,0,none⟩=some (bj (some ⟨r,0,none⟩))/\w'.cell? ⟨w.heap.size+1+1,0,none⟩=some (bd be n)/\w'.cell? ⟨w.heap.size+1,0,none⟩=some (bd be e.k)/\w'.cell? ⟨w.heap.size+1,1,none⟩=some (bd be e.op)/\w'.cell? ⟨w.heap.size+1,2,none⟩=some (bh e.nm)/\w'.cell? ⟨w.heap.size+1,3,none⟩=some (bd be e.v.k)/\w'.cell? ⟨w.heap.size+1,4,none⟩=some (bd be e.v.n)/\w'.cell? ⟨w.heap.size+1,5,none⟩=some (bh e.v.s)/\w'.cell? ⟨w.heap.size+1,6,none⟩=some (bi A1 e.v.l.length c1)/\w'.cell? ⟨w.heap.size+1,7,none⟩=some (bi A2 e.ar.length c2) from λ w' b =>
  ⟨Below.cell_of (t.trans (b.mono t.size)) am,Below.cell_of b (ba.cell 0),Below.cell_of b (aZ.cell 0),Below.cell_of b (q.cell 0),Below.cell_of b (q.cell 1),Below.cell_of b (q.cell 2),Below.cell_of b (q.cell 3),Below.cell_of b (q.cell 4),Below.cell_of b (q.cell 5),Below.cell_of b (q.cell 6),Below.cell_of b (q.cell 7)⟩)
 have Y:=qh (show ∀ w',DD wb w'->aT w' B0 S m1 m2 m3 x f N K/\r<w'.heap.size/\eX w' w'.heap.size AM more/\bC w' B e (aA e A1 c1 A2 c2)/\B<=w'.heap.size/\Tab w'/\Mx w' from λ w' b=>by
  have c:=t.trans (b.mono t.size);exact⟨H.o.1.keep c,bz aM c.size,aF.UK (λ _ _ h=>h.up c.size) (ag.keep c) c.size,HX.o.keep (c.mono hB),bn hB c.size,aB T c,aL.below c⟩)
 have A:=qh (bV.eq_def N K n more e);obtain⟨R,hR⟩:=af (bV N K n more e);rw[hR] at A ⊢;have H0:=Y.o wb (Below.refl _ _);have K1:=qh (show Calls lM 175 #[.agg (Ag e A1 c1 A2 e.ar.length c2)] wb _ from Vm e B _ wb H0.2.2.2.1 H0.2.2.2.2.1 (by omega) H0.2.2.2.2.2.1 H0.2.2.2.2.2.2);rw[<- afp] at K1;obtain⟨z1,F⟩:=af (XX e);obtain⟨z2,D⟩:=af (EK N e n more);have K2:=qh (show ∀ w',DD wb w'->Calls lM 176 #[bj (some ⟨r,0,none⟩),.agg (Ag e A1 c1 A2 e.ar.length c2),bd be n,bi AM more.length cm] w' λ en C=>en = bk (bd be z2)/\DD w' C from λ w' b=>by
  have h:=Y.o w' b;rw[<- D];exact Vj h.1 (U.o w' b).1 h.2.1 H.o.2.2.2.1 h.2.2.1 h.2.2.2.1 h.2.2.2.2.1 hn)
 rw[F] at K1 A;rw[D] at A;clear F D hR h am T aL ag H0 hx;obtain⟨a1,a2,a3,iE,iF,iG,iH,iI,iJ,iK,gX⟩:=U.o wb (Below.refl _ _);show Calls lM 120 #[bj (some ⟨r,0,none⟩),.agg (Ag e A1 c1 A2 e.ar.length c2),bd be n,bi AM more.length cm] w _;go_enter func120,ntmps120;go_upto_region 1 with (fail);rw[<- z];clear z;by_cases E:z1=0;rotate_left
 .have HE:=qh (A.o.trans (if_pos E));obtain⟨g0,a5⟩:=fH E;clear E;go_wp2_with (go_at_call 175;(with_reducible refine K1.o.mono ?_);rintro e1 w1 ⟨rfl,l⟩);go_ret2;exact⟨by rw[HE.o];rfl,t.trans (l.mono t.size)⟩
 have HG:=qh (A.o.trans (if_neg (λ h=>h E)));clear A;subst E;go_upto_region 4 with (go_at_call 175;(with_reducible refine K1.o.mono ?_);rintro e1 w1 ⟨rfl,l⟩);clear a1 a2 a3 iE iF iG iH iI iJ iK gX;obtain⟨a1,a2,a3,iE,iF,iG,iH,iI,iJ,iK,gX⟩:=U.o w1 l;by_cases O:z2=0;rotate_left
 .have HE:=qh (HG.o.trans (if_pos O));obtain⟨g0,a5⟩:=fH O;clear O;go_wp2_with (go_at_call 176;(with_reducible refine (K2.o _ l).mono ?_);rintro e1 w2 ⟨rfl,o⟩);go_ret2;exact⟨by rw[HE.o];rfl,t.trans ((l.trans (o.mono l.size)).mono t.size)⟩
 have A:=qh (HG.o.trans (if_neg (λ h=>h O)));clear HG;subst O;go_upto_region 7 with (go_at_call 176;(with_reducible refine (K2.o _ l).mono ?_);rintro e1 w2 ⟨rfl,o⟩);have o:=l.trans (o.mono l.size);clear a1 a2 a3 iE iF iG iH iI iJ iK gX;obtain⟨a1,a2,a3,iE,iF,iG,iH,iI,iJ,iK,gX⟩:=U.o w2 o;have ay:∀ (a:Array Value) (W:World),(callFunc 177 a).run lM W = .ok (.enter 177 a) W:=λ a W=>by simp[callFunc,go_sem,func177,f177]
 have V:=(Y.o w2 o).1;have K3:=qh (UO V 177 #[bj (some ⟨w.heap.size,0,none⟩),bj (some ⟨w.heap.size+1+1,0,none⟩)] ay (λ i=>iW N i n) (λ i w' hi b=>by
  have c:=o.trans (b.mono o.size);exact Vq (Y.o w' c).1 H.o.2.2.2.1 (U.o w' c).1 (U.o w' c).2.1 (U.o w' c).2.2.1 hn hi))
 obtain⟨L,hL⟩:=af (EL N K n);rw[show o8 N K (λ i=>iW N i n) N.length=L from hL] at K3;have bc:L.length<=301:=by
  rw[<- hL];exact bn (EU _) H.o.1.nodes.1
 rw[hL] at A;clear ay V hL K2 K1;obtain⟨i0,aD,a9,F,D⟩:=info_parts NC;have G:=qh o;rcases bb with ⟨rfl,rfl,rfl⟩ | ⟨m,rfl⟩
 case' inl =>
  rw[List.append_nil] at A;go_upto_region 8 with (first
   | (go_at_call 67;(with_reducible refine K3.o.mono ?_);rintro e3 w4 ⟨⟨v3,rfl,xs,d,I⟩,s⟩;obtain⟨A4,c4,rfl⟩:=dX d)
   | (at_builtin;refine yl rfl _ _ 40 rfl w2.heap.size 51 i0 3 underlying40 aD F _ L.length xs rfl d rfl ?_))
  have Q:=qh (bp (Dq.cells ⟨xs,d,I⟩ (by unfold maxLen;omega)) (vM d));have k:=G.o.trans (s.mono G.o.size);clear d I s;obtain⟨M,X⟩:=af (L);rw[X] at A Q;rw[X];clear X
 case' inr =>
  obtain⟨M,X⟩:=af (L ++ [m]);rw[X] at A;obtain⟨-,ys,hr,ao⟩:=H.o.2.2.2.2;obtain⟨ad,rfl,-,ap⟩:=hr.2 (by simp);have aR:ys.length=3:=hr.1;have y:=ao 0 (by simp);rw[bw,List.drop_zero,List.take_of_length_le (by omega)] at y;obtain⟨Am,a8,aV,-,-⟩:=y.ex;subst aV;have aa:=qh (bp y ap);clear hr ao y ap aR;go_upto_region 8 with (first
   | (go_at_call 67;(with_reducible refine K3.o.mono ?_);rintro e3 w3 ⟨⟨v3,rfl,xs,d,I⟩,ae⟩;have s:=G.o.trans (ae.mono G.o.size))
   | (at_builtin;refine wpList_append_own _ rfl _ _ 40 rfl w2.heap.size 51 i0 (.agg #[.string ⟨#[]⟩,.int .i64 0,.slice none 0 0]) 3 48 underlying40 aD a9 F D rfl (by decide) _ _ _ rfl d ad 1 cm [.string m.nm,.int .i64 m.kind,.slice Am m.loops.length a8] rfl rfl (λ j u hj=>Below.cell_of (t.trans (s.mono t.size)) (aa.o.2 j u hj)) (by simp[Value.oneCell']) (by unfold maxLen;omega) (by omega) ae.size ?_;intro v4 w4 J ab _))
  have k:DD wb w4:=s.grown ab s.size (λ g hg=>bn G.o.size (d.lt g hg).1);obtain⟨A4,c4,rfl,h4,av⟩:=QL (more:=[m]) d I ab J (λ i hi=>by
   obtain rfl:i=0:=by simpa using hi
   exact (aa.o.1.keep (t.trans (k.mono t.size))).up (bn t.size k.size)) (by unfold maxLen;simp;omega)
  have Q:=qh (bp h4 av);rw[X] at Q;rw[X];clear h4 av d I ab J s ae X aa
 all_goals
  have Vr:=t.trans (k.mono t.size);have P:=Y.o w4 k;clear a1 a2 a3 iE iF iG iH iI iJ iK gX;obtain⟨a1,a2,a3,iE,iF,iG,iH,iI,iJ,iK,gX⟩:=U.o w4 k;obtain⟨p,I1,j1,I2,j2,I3,j3,I4,j4,I5,j5,B1,b1,B2,b2,B3,b3,Ad,cd,hA,PU,-,al,hc⟩:=P.1.pG hn;have an:w4.cell? ⟨(p.add (n*23)).block,(p.add (n*23)).off+22,none⟩=some (bi Ad N[n].lo.length cd):=hc 22 _ rfl;obtain⟨lo,Qv⟩:=af (N[n].lo);rw[iD hn,Qv,YM] at A;rw[Qv] at an al;have yM:=qh al;have KN:=qh (show ∀ w',DD w4 w'->Calls lM 69 #[bj (some ⟨S,0,none⟩)] w' λ e C=>(∃ v,e = bk v/\Dq 184 2 EP C w'.heap.size v (jG N))/\DD w4 C from λ w' b =>
   (UR (Y.o w' (k.trans (b.mono k.size))).1).mono λ _ _ ⟨E,O⟩=>⟨E,b.trans (O.mono b.size)⟩)
  have SY:=qh (YN P.1);have ax:(jG N).length<=maxLen:=by
   have E:=EX (N:=N) N.length;rw[List.take_length] at E;have O:=P.1.nodes.1;unfold maxLen;omega
  have KT:=qh (show ∀ w' A5 c5,DD w4 w'->qj w' w'.heap.size A5 (jG N)->Calls lM 178 #[.agg (Ag e A1 c1 A2 e.ar.length c2),bi A4 M.length c4,bi A5 (jG N).length c5,bi Ad lo.length cd] w' λ en C=>en = bk (.tuple #[bd be R.1,bd be R.2])/\DD w4 C from λ w' A5 c5 b h5=>by
   rw[A.o];have aq:=k.trans (b.mono k.size);have hE:=(Y.o w' aq).2.2.2.1.up (Y.o w' aq).2.2.2.2.1;exact (QK e M (jG N) A4 A5 c4 c5 w'.heap.size lo Ad cd _ w' hE (aF.UK (λ _ _ h=>h.up b.size) (Q.o.1.keep b) b.size) h5 yM.o.1.2.2.1 ((yM.o.1.1.below b).more b.size) yM.o.1.2.1 (bq _) hp SY.o yM.o.1.2.2.2).mono λ _ _ ⟨E,O⟩=>⟨E,b.trans (O.mono b.size)⟩)
  obtain⟨NL,aw⟩:=af (jG N);rw[aw] at KN KT ax;have ac:=Below.refl w4.heap.size w4;have DU:=qh (show ∀ w',DD w4 w'->w'.cell? ⟨r,0,none⟩=some (bj (some ⟨S,0,none⟩))/\w'.cell? ⟨w.heap.size,0,none⟩=some (bj (some ⟨r,0,none⟩))/\w'.cell? ⟨w.heap.size+1+1,0,none⟩=some (bd be n)/\w'.cell? ⟨w.heap.size+1,0,none⟩=some (bd be e.k)/\w'.cell? ⟨w.heap.size+1,1,none⟩=some (bd be e.op)/\w'.cell? ⟨w.heap.size+1,2,none⟩=some (bh e.nm)/\w'.cell? ⟨w.heap.size+1,3,none⟩=some (bd be e.v.k)/\w'.cell? ⟨w.heap.size+1,4,none⟩=some (bd be e.v.n)/\w'.cell? ⟨w.heap.size+1,5,none⟩=some (bh e.v.s)/\w'.cell? ⟨w.heap.size+1,6,none⟩=some (bi A1 e.v.l.length c1)/\w'.cell? ⟨w.heap.size+1,7,none⟩=some (bi A2 e.ar.length c2)/\w'.cell? ⟨S,5,none⟩=some (bi (some p) N.length x.cn)/\w'.cell? ⟨(p.add (n*23)).block,(p.add (n*23)).off+22,none⟩=some (bi Ad lo.length cd)/\DD w4 w' from λ w' b=>⟨Below.cell_of b a1,Below.cell_of b a2,Below.cell_of b a3,Below.cell_of b iE,Below.cell_of b iF,Below.cell_of b iG,Below.cell_of b iH,Below.cell_of b iI,Below.cell_of b iJ,Below.cell_of b iK,Below.cell_of b gX,Below.cell_of b PU,Below.cell_of b an,b⟩);clear hA hc al Qv P aw;go_region_held3 (λ w'=>w'.cell? ⟨r,0,none⟩=some (bj (some ⟨S,0,none⟩))/\w'.cell? ⟨w.heap.size,0,none⟩=some (bj (some ⟨r,0,none⟩))/\w'.cell? ⟨w.heap.size+1+1,0,none⟩=some (bd be n)/\w'.cell? ⟨w.heap.size+1,0,none⟩=some (bd be e.k)/\w'.cell? ⟨w.heap.size+1,1,none⟩=some (bd be e.op)/\w'.cell? ⟨w.heap.size+1,2,none⟩=some (bh e.nm)/\w'.cell? ⟨w.heap.size+1,3,none⟩=some (bd be e.v.k)/\w'.cell? ⟨w.heap.size+1,4,none⟩=some (bd be e.v.n)/\w'.cell? ⟨w.heap.size+1,5,none⟩=some (bh e.v.s)/\w'.cell? ⟨w.heap.size+1,6,none⟩=some (bi A1 e.v.l.length c1)/\w'.cell? ⟨w.heap.size+1,7,none⟩=some (bi A2 e.ar.length c2)/\w'.cell? ⟨S,5,none⟩=some (bi (some p) N.length x.cn)/\w'.cell? ⟨(p.add (n*23)).block,(p.add (n*23)).off+22,none⟩=some (bi Ad lo.length cd)/\DD w4 w')
   (first | exact DU.o _ ac | exact DU.o _ ac.drew | exact DU.o _ Z | exact DU.o _ Z.drew | exact DU.o _ ar)
   (first
    | (go_at_call 69;(with_reducible refine (KN.o _ ac.drew).mono ?_);rintro e5 w5 ⟨⟨v5,rfl,a6,ak,aE⟩,Z⟩;obtain⟨A5,a7,rfl⟩:=dX ak;have a0:=qh (show qj w5 w5.heap.size A5 NL from Dq.ahY ⟨a6,ak,aE⟩ ax);clear ak aE)
    | (go_at_call 178;(with_reducible refine (KT.o _ A5 a7 Z a0.o).mono ?_);rintro e6 w6 ⟨rfl,ar⟩))
  all_goals
   go_wp2;go_ret2;exact⟨rfl,Vr.trans (ar.mono Vr.size)⟩
theorem Fq {w:World} {B0 k E F C:Nat} {x:jS} {f:aI} {N:List au} {K:aY} (h:aT w B0 k E F C x f N K) (n:Nat) (p:n<N.length) :
  Calls lM 169 #[bj (some ⟨k,0,none⟩),bd be n] w λ e w'=>(∃ v,e = bk v/\(∃ A c,v = bi A (cZ N K n).length c/\eX w' w'.heap.size A (cZ N K n)/\((A=none/\c=0/\cZ N K n = [])\/(∃ m,cZ N K n = [m]))))/\DD w w':=by
 obtain⟨ad,A,c,t,-,B,-,-,-,-,-,-,-⟩:=h.nd_ p;have c5:w.cell? ⟨k,5,none⟩=some (bi x.AN N.length x.cn):=h.blk.cell 5;have u:=h.cap;have H:=h.nodes.1;rw[t] at c5;have z:=qh (Iz h n p);have a:=qh (show cZ N K n=if 0<=(n:Int)/\(jY N n).it.k=4 then [uC K (jY N n)] else [] from rfl);obtain⟨d,r⟩:=af (N[n]);rw[iD p,r] at a;rw[r] at z B;clear h t r;by_cases h4:d.it.k=4
 .have a:=qh (a.o.trans (if_pos ⟨by omega,h4⟩));rw[a.o];obtain⟨D,o⟩:=iP h4;clear h4;go_enter func169,ntmps169;go_wp2_with (go_at_call 110;(with_reducible refine z.o.mono ?_);rintro I j ⟨⟨G,rfl,l,s,rfl,q⟩,b⟩);go_ret;have y:=az j (.cells #[bh (uC K d).nm,bd be (uC K d).kind,bi l (uC K d).loops.length s] 51 (0,0));refine⟨⟨_,rfl,some ⟨j.heap.size,0,none⟩,1,rfl,⟨show 1<=maxLen by unfold maxLen;decide,[bh (uC K d).nm,bd be (uC K d).kind,bi l (uC K d).loops.length s],⟨rfl,λ _=>⟨_,rfl,by simp,gZ (ah.new j _ _)⟩⟩,λ i g=>?_⟩,.inr ⟨_,rfl⟩⟩,b.trans (y.mono b.size)⟩;obtain rfl:i=0:=by simpa using g
  exact (gB.later ⟨l,s,rfl,q⟩ y).at_
 .have a:=qh (a.o.trans (if_neg (λ h=>h4 h.2)));rw[a.o];obtain⟨D,o⟩:=fH h4;clear h4;go_enter func169,ntmps169;go_wp2;go_ret;exact⟨⟨_,rfl,none,0,rfl,⟨by decide,[],Reads.none_,λ i g=>by cases g⟩,bo ⟨rfl,rfl,by first | rfl | trivial⟩⟩,Below.refl _ _⟩
theorem Fv {F:Ex->Int × Int} {k:Int} {l:List Ex} {i:Nat} (h:i<l.length):dS F k (l.drop i)=if (F l[i]).2≠0 then (F l[i]).2 else if (F l[i]).1≠k then 8 else dS F k (l.drop (i+1)):=by
 rw[bA h,dS]
theorem IM {w:World} {B0 Z m1 m2 m3:Nat} {x:jS} {f:aI} {N:List au} {K:aY} (h:aT w B0 Z m1 m2 m3 x f N K) {y:Nat} (C:w.cell? ⟨y,0,none⟩=some (bj (some ⟨Z,0,none⟩))) (V:y<w.heap.size) (hN:gW N) {more:List bu} {AM A:Option Addr} {cm c B n:Nat} {l:List Ex} (D:eX w w.heap.size AM more) (G:(AM=none/\cm=0/\more = [])\/(∃ m,more = [m])) (J:aF bC 8 w B A l) (H:B<=w.heap.size) (hn:n<N.length)
  (hp:∀ e∈l,e.parts<=1000000) (p:Tab w) (F:Mx w) :
  CS 117 #[bj (some ⟨y,0,none⟩),bi A l.length c,bd be n,bi AM more.length cm] w (bd be (dS (bV N K n more) 7 l)):=by
 have O:=J.1;unfold maxLen at O;have HL:=qh J;have KF:=qh (show ∀ w' e cs,DD w w'->bC w' B e cs->e.parts<=1000000->Calls lM 120 #[bj (some ⟨y,0,none⟩),.agg cs.toArray,bd be n,bi AM more.length cm] w' λ L S=>L = bk (.tuple #[bd be (bV N K n more e).1,bd be (bV N K n more e).2])/\DD w' S from λ w' e cs o hx I =>
  wU (h.keep o) (Below.cell_of o C) (bz V o.size) hN (aF.UK (λ _ _ h=>h.up o.size) (D.keep o) o.size) G hx (bn H o.size) hn I (aB p o) (F.below o))
 have HP:=qh hp;obtain⟨Q,z⟩:=af (bV N K n more);rw[z] at KF ⊢;obtain⟨R,T⟩:=af (dS Q 7 l);have HR:=qh T.symm;rw[T];clear h C D J hp p F z T G;go_enter func117,ntmps117;go_wp2;go_loopw [15] (λ i wr=>∃ k:Nat,i = bd be k/\k<=l.length/\Hid (R=dS Q 7 (l.drop k))/\DD w wr) (λ i _=>l.length+1 - (intOf i).toNat)
 case atStart=>exact⟨0,rfl,Nat.zero_le _,HR,Below.refl _ _⟩
 case round =>
  obtain⟨k,rfl,hk,s,E⟩:=hrel;have Y:=E.size;by_cases hlt:k<l.length
  .have s:=qh (s.o.trans (Fv hlt));obtain⟨ad,ci,rfl,M,q,b⟩:=aF.at_ (aF.keep (λ _ _ h=>h.keep (E.mono H)) HL.o (E.mono H)) hlt;obtain⟨a,W⟩:=af (l[k]);have zk:=qh (HP.o a (W▸bt hlt));rw[W] at q s;have qV:=qh q;have aV:=qh hlt;obtain⟨-,-,-,-,-,-,-⟩:=q;rename_i A3 c3 A4 c4 aa;have qi:wr.cell? (ad.add (k*8))=some (bd be a.k):=b 0 _ rfl;have qW:wr.cell? ⟨(ad.add (k*8)).block,(ad.add (k*8)).off+1,none⟩=some (bd be a.op):=b 1 _ rfl;have xE:wr.cell? ⟨(ad.add (k*8)).block,(ad.add (k*8)).off+2,none⟩=some (bh a.nm):=b 2 _ rfl;have zX:wr.cell? ⟨(ad.add (k*8)).block,(ad.add (k*8)).off+3,none⟩=some (bd be a.v.k):=b 3 _ rfl;have zY:wr.cell? ⟨(ad.add (k*8)).block,(ad.add (k*8)).off+4,none⟩=some (bd be a.v.n):=b 4 _ rfl;have zZ:wr.cell? ⟨(ad.add (k*8)).block,(ad.add (k*8)).off+5,none⟩=some (bh a.v.s):=b 5 _ rfl;have Aa:wr.cell? ⟨(ad.add (k*8)).block,(ad.add (k*8)).off+6,none⟩=some (bi A3 a.v.l.length c3):=b 6 _ rfl;have Ac:wr.cell? ⟨(ad.add (k*8)).block,(ad.add (k*8)).off+7,none⟩=some (bi A4 a.ar.length c4):=b 7 _ rfl;obtain⟨W3,g⟩:=aG (wr.alloc (.cells (Ag a A3 c3 A4 a.ar.length c4) 67 (0,0)));have v:DD wr W3:=g▸az wr _;have B3:ah W3 wr.heap.size 67 (Ag a A3 c3 A4 a.ar.length c4):=g▸ah.new wr _ _;have d:=E.trans (v.mono Y);clear b W M;go_upto_region 4 with (fail);rw[<- g];clear g qi qW xE zX zY zZ Aa Ac;obtain⟨Lu,LC,LD,LH,LJ,LK,LM,LP⟩:=ah.c8 B3;have X:=qh (show Calls lM 120 #[bj (some ⟨y,0,none⟩),.agg (Ag a A3 c3 A4 a.ar.length c4),bd be n,bi AM more.length cm] W3 _ from KF.o W3 a _ d (qV.o.keep (v.mono (bn H Y))) zk.o);obtain⟨r,hr⟩:=af (Q a);rw[hr] at X s;clear hr;by_cases h0:r.2=0
   case' neg =>
    have t:=qh (s.o.trans (if_pos h0));obtain⟨g0,P⟩:=fH h0;clear h0
   case' pos =>
    have u:=qh (s.o.trans (if_neg (λ h=>h h0)));obtain⟨g0,P⟩:=iP h0;clear h0;by_cases h7:r.1=7
    case' neg =>
     have t:=qh (u.o.trans (if_pos h7));obtain⟨g7,U⟩:=fH h7;clear h7
    case' pos =>
     have t:=qh (u.o.trans (if_neg (λ h=>h h7)));obtain⟨g7,U⟩:=iP h7;clear h7
   all_goals
    go_wp2_with (go_at_call 120;(with_reducible refine X.o.mono ?_);rintro e1 w4 ⟨rfl,j⟩;have j:=d.trans (j.mono d.size);clear Lu LC LD LH LJ LK LM LP)
    first
     | (go_ret
        exact⟨aj t.o.symm,j⟩)
     | (go_roundw
        case rel=>exact⟨k+1,by go_num,aV.o,t,j⟩
        case measure =>
         have:=aV.o;simp[intOf];omega)
  .have e:k=l.length:=by omega
   subst e;have t:=qh (show R=0 from s.o.trans (by rw[List.drop_length];rfl));go_wp2;go_ret;exact⟨aj t.o.symm,E⟩
end
open Go.RowKit
attribute [local go_sem ↓] Go.wp_at_zero Go.wp_at_succ
theorem byT {c d:UInt8} {n:Int} (a:(d.toNat:Int)=n) (h:c=d):(c.toNat:Int)=n:=by rw[h];exact a
theorem byF {c d:UInt8} {n:Int} (a:(d.toNat:Int)=n) (h:¬ c=d):¬ (c.toNat:Int)=n:=λ e=>h (UInt8.toNat_inj.1 (by omega))
def Vs (s:ByteArray) (i:Nat):Int:=match o9 (s.data.toList.drop i) false 0 with
 | some k=>(i+k:Nat)
 | none=>-1
theorem YO {s:ByteArray} {j:Nat} (h:j<s.size) (q:Bool) (m:Nat):o9 (s.data.toList.drop j) q m=if s[j]=39 then o9 (s.data.toList.drop (j+1)) (!q) (m+1) else if q=true then o9 (s.data.toList.drop (j+1)) q (m+1) else if s[j]=125 then some m else if s[j]=123 then none else o9 (s.data.toList.drop (j+1)) q (m+1):=by
 have a:j<s.data.toList.length:=by simpa using h
 rw[bA a,o9];rfl
theorem end_none {s:ByteArray} (q:Bool) (m:Nat):o9 (s.data.toList.drop s.size) q m=none:=by
 rw[bx (by simp),o9]
theorem Oa (s:ByteArray) (i:Nat) (w:World) (A:s.size<=maxLen) (z:i<=s.size) :
  E5 208 #[bh s,bd be i] w (bd be (Vs s i)):=by
 unfold maxLen at A;obtain⟨R,t⟩:=af (Vs s i);have y:=qh (show ∀ r,o9 (s.data.toList.drop i) false 0=r->R=(match r with | some k=>((i+k:Nat):Int) | none=>-1) from λ r h=>by rw[<- t,Vs,h]);rw[t];clear t;go_enter func208,ntmps208;go_wp2;go_loopw [1,5] (λ a q wr=>∃ (j:Nat) (b:Bool),a = bd be j/\q = .bool b/\i<=j/\j<=s.size/\wr=w/\Hid (o9 (s.data.toList.drop i) false 0=o9 (s.data.toList.drop j) b (j - i))) (λ a _ _=>s.size+1 - (intOf a).toNat)
 case atStart=>exact⟨i,false,rfl,rfl,bq _,z,rfl,qh (by rw[Nat.sub_self])⟩
 case round =>
  obtain⟨j,b,rfl,rfl,p,F,rfl,f⟩:=hrel;by_cases m:j<s.size
  .have f:=qh (f.o.trans (YO m b (j - i)));obtain⟨c,E⟩:=af (s[j]);rw[E] at f;have g:=qh (bp m p);rw[<- Nat.sub_add_comm p] at f;by_cases yN:c=39
   .obtain⟨B,x⟩:=iP (byT (n:=39) rfl yN);have d:=qh (f.o.trans (if_pos yN));clear yN;go_wp2;go_roundw
    case rel=>exact⟨j+1,_,by go_num,rfl,by have:=g.o;omega,g.o.1,by first | rfl | trivial,d⟩
    case measure =>
     have:=g.o
     first | (simp[intOf];done) | (simp[intOf];omega)
   have f:=qh (f.o.trans (if_neg yN));obtain⟨B,x⟩:=fH (byF (n:=39) rfl yN);clear yN;cases b
   case true =>
    have d:=qh (f.o.trans (if_pos rfl));go_wp2;go_roundw
    case rel=>exact⟨j+1,_,by go_num,rfl,by have:=g.o;omega,g.o.1,by first | rfl | trivial,d⟩
    case measure =>
     have:=g.o
     first | (simp[intOf];done) | (simp[intOf];omega)
   have o:=qh (f.o.trans (if_neg (by decide)));by_cases zl:c=125
   .obtain⟨C,u⟩:=iP (byT (n:=125) rfl zl);have d:=qh (y.o _ (o.o.trans (if_pos zl)));clear zl;go_wp2;go_ret;exact⟨aj (by rw[d.o];have:=g.o;simp;omega),by first | rfl | trivial⟩
   have l:=qh (o.o.trans (if_neg zl));obtain⟨C,u⟩:=fH (byF (n:=125) rfl zl);clear zl;by_cases kQ:c=123
   .obtain⟨D,v⟩:=iP (byT (n:=123) rfl kQ);have d:=qh (y.o _ (l.o.trans (if_pos kQ)));clear kQ;go_wp2;go_ret;exact⟨aj (by rw[d.o]),by first | rfl | trivial⟩
   have d:=qh (l.o.trans (if_neg kQ));obtain⟨D,v⟩:=fH (byF (n:=123) rfl kQ);clear kQ;go_wp2;go_roundw
   case rel=>exact⟨j+1,_,by go_num,rfl,by have:=g.o;omega,g.o.1,by first | rfl | trivial,d⟩
   case measure =>
    have:=g.o
    first | (simp[intOf];done) | (simp[intOf];omega)
  .have e:j=s.size:=by omega
   subst e;have d:=qh (y.o _ (f.o.trans (end_none _ _)));go_wp2;go_ret;exact⟨aj (by rw[d.o]),by first | rfl | trivial⟩
end Go.Proofs.YtcnagconagpkcaaGreatDoor
