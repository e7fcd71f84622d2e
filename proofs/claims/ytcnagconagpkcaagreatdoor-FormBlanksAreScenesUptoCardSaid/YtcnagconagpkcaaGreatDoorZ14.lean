/- Lemmas. -/
import Derived.Test.YtcnagconagpkcaaGreatDoorZ13
import Derived.Laws.AppendOwn
set_option maxHeartbeats 4000000
set_option maxRecDepth 100000
open Go.Value renaming int->bg, string->bi, slice->bj, pointer->bk
open Go.IntKind renaming i64->bh
open Go.Ending renaming returned->bl
open Go.AllReadyH renaming cons->bm, nil->bn
open Or renaming inl->bo
open Nat renaming le_trans->bp, le_refl->bq, zero_mul->bx, lt_of_lt_of_le->bB
open And renaming intro->br
open Go.NoPanic renaming normal->bs
open List renaming length_append->bt, getElem_mem->bv, length->bw, drop_eq_nil_of_le->bA, append_nil->bD, drop_eq_getElem_cons->bE, length_tail->bK
namespace Go.Proofs.YtcnagconagpkcaaGreatDoor
open Go.RowKit
attribute [local go_sem ↓] Go.wp_at_zero Go.wp_at_succ
theorem ace {w:World} {B:Nat} {ad:Addr} (h:bV w B (some ad) xE) {a:Int} (f:1<=a) (g:a<=6):∃ b o,ad=⟨b,o,none⟩/\w.cell? ⟨b,o+a.toNat,none⟩=some (bi (tx (lC a))):=by
 obtain⟨b,o,d,i,c⟩:=h.plain (show 0<xE.length by decide);refine⟨b,o,Option.some.inj d,c _ _ ?_⟩;have e:a.toNat=1\/a.toNat=2\/a.toNat=3\/a.toNat=4\/a.toNat=5\/a.toNat=6:=by omega
 unfold lC;rcases e with h | h | h | h | h | h <;> rw[h] <;> rfl
theorem Vr (e:Ex) (C:e.k=5) (hI:∀ a∈e.ar,fG 212 a) (h9:∀ a∈e.ar,a.text.length<=1000000000) (hj:∀ l,((insL l e.ar).map bw).sum+98*e.ar.length<=999999000) (al:e.ar.length<=999999) (hP:jQ e=0) (B:Nat) (cs:List Value) (w:World) (hx:aZ w B e cs) (hB:B<=w.heap.size) (Q:Tab w) (hm:Mx w) :
  IE 212 #[.agg cs.toArray] w (bi (tx (e.text))):=by
 have P:=kG hP;have HX:=qh hx;obtain⟨R,hR⟩:=af (e.text);rw[hR];have V:=hR.symm.trans (text_eq e);have pK:=qh (λ w' (x:IY w w')=>br (aA Q x) (hm.below x));obtain⟨hn,hs,hl,ha,hx,hr,hi⟩:=hx;rename_i A1 c1 A2 U cs;have qN:=qh (λ w' (x:IY w w')=>HX.o.keep (x.mono hB));have ay:(e.k == 1)=false:=by rw[C];rfl
 have aL:(e.k == 2)=false:=by rw[C];rfl
 have ax:(e.k == 3)=false:=by rw[C];rfl
 have aE:(e.k == 5)=true:=by rw[C];rfl
 rw[if_neg (by omega),if_neg (by omega),if_neg (by omega),if_pos C] at V;have ab:=P.op5 C;have h1:=P.a5 C;have aa:=Bf (sS hP (.inr (.inr C)));have av:e.nm.size<=16:=by simpa using aa
 obtain⟨ad,aD,rfl,aq,rC,E⟩:=zD hr hi (show 0<e.ar.length by omega);have hg:=yu 0 e.ar 0 (by omega);have hz:=h9 _ (bv (show 0<e.ar.length by omega));have T:=hI _ (bv (show 0<e.ar.length by omega));obtain⟨a,ak⟩:=af (e.ar[0]);rw[ak] at rC hg hz T;have nP:=qh rC;obtain⟨z1,z2,z3,z4,ao,an,ar⟩:=rC;rename_i Y Z A4 X aw;have J:∀ j u,(ai a Y Z A4 X)[j]?=some u->w.cell? (ad.add j)=some u:=λ j u hu=>by have h:=E j u hu;rwa [bx,kH] at h
 obtain⟨kC,kT,nZ,tV,tX,tY,tZ,wJ⟩:=Cm J;have WJ:=qh h1;have ap:=X6 a;obtain⟨t,N⟩:=af (tx a.text);obtain⟨s,O⟩:=af (tx (lC e.op));have st:t.size<=1000000000:=by rw[<- N,lQ];exact hz
 have ss:s.size<=5:=by rw[<- O,lQ];exact TI e.op
 have Dq:=qh O;have jP:=qh N;have ac:=qh ab;have Rh:=qh T;have HR:=qh (show tx R=s ++ ⟨#[40]⟩ ++ e.nm ++ ⟨#[58,32]⟩ ++ t ++ ⟨#[41]⟩ by
  rw[V,hg,<- O,<- N];have hp:sF (decide (iL a<0)) a.text=a.text:=by unfold sF;rw[decide_eq_false (by omega)];rfl
  rw[hp];have ae:e.nm=tx e.nm.data.toList:=OQ rfl;rw[ae,<- iV,<- iV,<- iV,<- iV,<- iV];rw[<- ae];try rfl)
 have o1:0<=e.op:=by omega
 have o2:e.op<7:=by omega
 clear hx hr hi Q hm hI h9 hj al hR V E J ao an ar aq ak z1 z2 z3 z4 P hP C hg hz T N O ap aa ab;change Hid (∀ w',IY w w'->aZ w' B e [bg bh e.k,bg bh e.op,bi e.nm,bg bh e.v.k,bg bh e.v.n,bi e.v.s,bj A1 e.v.l.length c1,bj (some ad) e.ar.length U]) at qN;rw[h1] at qN;show Calls Tryz.prog 212 #[.agg (BC e A1 c1 (some ad) e.ar.length U)] w _;rw[h1];clear h1;go_enter Tryz.func212,Tryz.ntmps212;go_upto_region 1 with (fail);obtain⟨W,hW⟩:=aC ((w.alloc (.cells (BC e A1 c1 (some ad) 1 U) 67 (0,0))));have q:IY w W:=by rw[hW];exact ((Below.refl _ w).alloc (bq _) _)
 have B0:ah W (w.heap.size) 67 (BC e A1 c1 (some ad) 1 U):=by
  rw[hW];have:=ah.new w 67 (BC e A1 c1 (some ad) 1 U);exact this
 have am:W.heap.size=w.heap.size+1:=by rw[hW];simp
 rw[<- hW];obtain⟨gG,fZ,fV,gI,gJ,gK,gQ,fM⟩:=ah.c8 B0;have Ir:W.cell? ad=some (bg bh a.k):=Below.cell_of q kC;have Fz:W.cell? ⟨ad.block,ad.off+1,none⟩=some (bg bh a.op):=Below.cell_of q kT;have Iu:W.cell? ⟨ad.block,ad.off+2,none⟩=some (bi a.nm):=Below.cell_of q nZ;have Jm:W.cell? ⟨ad.block,ad.off+3,none⟩=some (bg bh a.v.k):=Below.cell_of q tV;have Jn:W.cell? ⟨ad.block,ad.off+4,none⟩=some (bg bh a.v.n):=Below.cell_of q tX;have Jo:W.cell? ⟨ad.block,ad.off+5,none⟩=some (bi a.v.s):=Below.cell_of q tY;have Jp:W.cell? ⟨ad.block,ad.off+6,none⟩=some (bj Y a.v.l.length Z):=Below.cell_of q tZ;have Jq:W.cell? ⟨ad.block,ad.off+7,none⟩=some (bj A4 a.ar.length X):=Below.cell_of q wJ;clear hW am kC kT nZ tV tX tY tZ wJ;have A:=qh (show ∀ w',IY W w'->Calls Tryz.prog 237 #[] w' λ en D=>∃ b o,en = bl (bj (some ⟨b,o,none⟩) 7 7)/\D.cell? ⟨b,o+e.op.toNat,none⟩=some (bi s)/\IY W D/\IY w' D from λ w' x =>
  (yP w').mono λ _ D ⟨ad,he,hs,C⟩=>by
   obtain⟨b,o,rfl,hc⟩:=ace hs ac.o.1 ac.o.2;exact⟨b,o,he,by rw[hc,Dq.o],x.trans (C.mono x.size),C⟩)
 have z:=qh (show ∀ w',IY W w'->Calls Tryz.prog 212 #[.agg (BC a Y Z A4 a.ar.length X)] w' λ en D=>en = bl (bi t)/\IY W D/\IY w' D from λ w' x=>by
  have M:=q.trans (x.mono q.size);have h:=Rh.o B _ w' (nP.o.keep (M.mono hB)) (bp hB M.size) (pK.o w' M).1 (pK.o w' M).2;rw[jP.o] at h;exact h.mono λ _ _ ⟨he,C⟩=>⟨he,x.trans (C.mono x.size),C⟩)
 have c:=qh (show ∀ w',IY W w'->w'.cell? ⟨w.heap.size,1,none⟩=some (bg bh e.op)/\w'.cell? ⟨w.heap.size,2,none⟩=some (bi e.nm)/\w'.cell? ⟨w.heap.size,7,none⟩=some (bj (some ad) 1 U)/\w'.cell? ad=some (bg bh a.k)/\w'.cell? ⟨ad.block,ad.off+1,none⟩=some (bg bh a.op)/\w'.cell? ⟨ad.block,ad.off+2,none⟩=some (bi a.nm)/\w'.cell? ⟨ad.block,ad.off+3,none⟩=some (bg bh a.v.k)/\w'.cell? ⟨ad.block,ad.off+4,none⟩=some (bg bh a.v.n)/\w'.cell? ⟨ad.block,ad.off+5,none⟩=some (bi a.v.s)/\w'.cell? ⟨ad.block,ad.off+6,none⟩=some (bj Y a.v.l.length Z)/\w'.cell? ⟨ad.block,ad.off+7,none⟩=some (bj A4 a.ar.length X)/\IY W w' from λ w' x=>⟨Below.cell_of x fZ,Below.cell_of x fV,Below.cell_of x fM,Below.cell_of x Ir,Below.cell_of x Fz,Below.cell_of x Iu,Below.cell_of x Jm,Below.cell_of x Jn,Below.cell_of x Jo,Below.cell_of x Jp,Below.cell_of x Jq,x⟩);have d:IY W W:=Below.refl _ _;clear B0;go_upto_region 9 with (fail);refine wp_region_noPanic ?_;refine wp_region_held_drew (S:=(λ w'=>w'.cell? ⟨w.heap.size,1,none⟩=some (bg bh e.op)/\w'.cell? ⟨w.heap.size,2,none⟩=some (bi e.nm)/\w'.cell? ⟨w.heap.size,7,none⟩=some (bj (some ad) 1 U)/\w'.cell? ad=some (bg bh a.k)/\w'.cell? ⟨ad.block,ad.off+1,none⟩=some (bg bh a.op)/\w'.cell? ⟨ad.block,ad.off+2,none⟩=some (bi a.nm)/\w'.cell? ⟨ad.block,ad.off+3,none⟩=some (bg bh a.v.k)/\w'.cell? ⟨ad.block,ad.off+4,none⟩=some (bg bh a.v.n)/\w'.cell? ⟨ad.block,ad.off+5,none⟩=some (bi a.v.s)/\w'.cell? ⟨ad.block,ad.off+6,none⟩=some (bj Y a.v.l.length Z)/\w'.cell? ⟨ad.block,ad.off+7,none⟩=some (bj A4 a.ar.length X)/\IY W w')) (by kernel_rfl) ?_ (λ f=>?_)
 . ((try dsimp only);(first | exact c.o _ d.drew | exact c.o _ d | exact c.o _ n | exact c.o _ m | exact c.o _ g))
 refine wpAnyH_take (i:=1) (v:=?v1) rfl (by kernel_rfl) (by kernel_rfl) (by kernel_rfl) (λ _ _ _ h=>h) (bo ⟨by rfl,?y1⟩) (by assumption) ?r1
 case y1=>(intro w p;(try dsimp only at p);go_simp;try with_reducible rfl)
 refine wpAnyH_take (i:=2) (v:=?v2) rfl (by kernel_rfl) (by kernel_rfl) (by kernel_rfl) (λ _ _ _ h=>h) (bo ⟨by rfl,?y2⟩) (by assumption) ?r2
 case y2=>(intro w p;(try dsimp only at p);go_simp;try with_reducible rfl)
 refine wpAnyH_take (i:=6) (v:=?v3) rfl (by kernel_rfl) (by kernel_rfl) (by kernel_rfl) (λ _ _ _ h=>h) (bo ⟨by rfl,?y3⟩) (by assumption) ?r3
 case y3=>(intro w p;(try dsimp only at p);go_simp;try with_reducible rfl)
 refine wpAnyH_take (i:=7) (v:=?v4) rfl (by kernel_rfl) (by kernel_rfl) (by kernel_rfl) (λ _ _ _ h=>h) (bo ⟨by rfl,?y4⟩) (by assumption) ?r4
 case y4=>(intro w p;(try dsimp only at p);go_simp;try with_reducible rfl)
 refine wpAnyH_take (i:=10) (v:=?v5) rfl (by kernel_rfl) (by kernel_rfl) (by kernel_rfl) (λ _ _ _ h=>h) (bo ⟨by rfl,?y5⟩) (by assumption) ?r5
 case y5=>(intro w p;(try dsimp only at p);go_simp;try with_reducible rfl)
 refine wpAnyH_take (i:=11) (v:=?v6) rfl (by kernel_rfl) (by kernel_rfl) (by kernel_rfl) (λ _ _ _ h=>h) (bo ⟨by rfl,?y6⟩) (by assumption) ?r6
 case y6=>(intro w p;(try dsimp only at p);go_simp;try with_reducible rfl)
 refine wpAnyH_take (i:=12) (v:=?v7) rfl (by kernel_rfl) (by kernel_rfl) (by kernel_rfl) (λ _ _ _ h=>h) (bo ⟨by rfl,?y7⟩) (by assumption) ?r7
 case y7=>(intro w p;(try dsimp only at p);go_simp;try with_reducible rfl)
 refine wpAnyH_take (i:=13) (v:=?v8) rfl (by kernel_rfl) (by kernel_rfl) (by kernel_rfl) (λ _ _ _ h=>h) (bo ⟨by rfl,?y8⟩) (by assumption) ?r8
 case y8=>(intro w p;(try dsimp only at p);go_simp;try with_reducible rfl)
 refine wpAnyH_ready (rs:=[0]) (by kernel_rfl) (by simp) ?_;refine bm rfl (λ K k=>?_) ?_
 .go_simp
  (first | (go_at_call 237;(with_reducible refine (A.o _ d.drew).mono ?_);rintro F I ⟨b,o,rfl,r,n,G⟩) | (go_at_call 237;(with_reducible refine (A.o _ m).mono ?_);rintro F I ⟨b,o,rfl,r,g,G⟩) | (go_at_call 212;(with_reducible refine (z.o _ d.drew).mono ?_);rintro e3 H ⟨rfl,m,y⟩) | (go_at_call 212;(with_reducible refine (z.o _ n).mono ?_);rintro e3 H ⟨rfl,g,y⟩;have YM:=Below.cell_of y r))
  try go_wp2_with fail
  refine k.out _ _ ?_ (λ f=>?_)
  . ((try dsimp only);(first | exact c.o _ d.drew | exact c.o _ d | exact c.o _ n | exact c.o _ m | exact c.o _ g))
  clear k K;refine wpAnyH_take (i:=3) (v:=?v9) rfl (by kernel_rfl) (by kernel_rfl) (by kernel_rfl) (λ _ _ _ h=>h) (bo ⟨by rfl,?y9⟩) (by assumption) ?r9
  case y9=>(intro w p;(try dsimp only at p);go_simp;try with_reducible rfl)
  refine wpAnyH_ready (rs:=[4,14]) (by kernel_rfl) (by simp) ?_;refine bm rfl (λ K k=>?_) ?_
  .go_simp
   try go_wp2_with fail
   refine k.out _ _ ?_ (λ f=>?_)
   . ((try dsimp only);(first | exact c.o _ d.drew | exact c.o _ d | exact c.o _ n | exact c.o _ m | exact c.o _ g))
   clear k K;refine wpAnyH_ready (rs:=[5,14]) (by kernel_rfl) (by simp) ?_;refine bm rfl (λ K k=>?_) ?_
   .go_simp
    try go_wp2_with fail
    refine k.out _ _ ?_ (λ f=>?_)
    . ((try dsimp only);(first | exact c.o _ d.drew | exact c.o _ d | exact c.o _ n | exact c.o _ m | exact c.o _ g))
    clear k K;refine wpAnyH_ready (rs:=[8,14]) (by kernel_rfl) (by simp) ?_;refine bm rfl (λ K k=>?_) ?_
    .go_simp
     try go_wp2_with fail
     refine k.out _ _ ?_ (λ f=>?_)
     . ((try dsimp only);(first | exact c.o _ d.drew | exact c.o _ d | exact c.o _ n | exact c.o _ m | exact c.o _ g))
     clear k K;refine wpAnyH_ready (rs:=[9,14]) (by kernel_rfl) (by simp) ?_;refine bm rfl (λ K k=>?_) ?_
     .go_simp
      try go_wp2_with fail
      refine k.out _ _ ?_ (λ f=>?_)
      . ((try dsimp only);(first | exact c.o _ d.drew | exact c.o _ d | exact c.o _ n | exact c.o _ m | exact c.o _ g))
      clear k K;refine wpAnyH_ready (rs:=[14]) (by kernel_rfl) (by simp) ?_;refine bm rfl (λ K k=>?_) ?_
      .go_simp
       (first | (go_at_call 237;(with_reducible refine (A.o _ d.drew).mono ?_);rintro F I ⟨b,o,rfl,r,n,G⟩) | (go_at_call 237;(with_reducible refine (A.o _ m).mono ?_);rintro F I ⟨b,o,rfl,r,g,G⟩) | (go_at_call 212;(with_reducible refine (z.o _ d.drew).mono ?_);rintro e3 H ⟨rfl,m,y⟩) | (go_at_call 212;(with_reducible refine (z.o _ n).mono ?_);rintro e3 H ⟨rfl,g,y⟩;have YM:=Below.cell_of y r))
       try go_wp2_with fail
       refine k.out _ _ ?_ (λ f=>?_)
       . ((try dsimp only);(first | exact c.o _ d.drew | exact c.o _ d | exact c.o _ n | exact c.o _ m | exact c.o _ g))
       clear k K;refine wpAnyH_ready (rs:=[15]) (by kernel_rfl) (by simp) ?_;refine bm rfl (λ K k=>?_) ?_
       .go_simp
        try go_wp2_with fail
        refine k.out _ _ ?_ (λ f=>?_)
        . ((try dsimp only);(first | exact c.o _ d.drew | exact c.o _ d | exact c.o _ n | exact c.o _ m | exact c.o _ g))
        clear k K;refine wpAnyH_ready (rs:=[16]) (by kernel_rfl) (by simp) ?_;refine bm rfl (λ K k=>?_) ?_
        .go_simp
         try go_wp2_with fail
         refine k.out _ _ ?_ (λ f=>?_)
         . ((try dsimp only);(first | exact c.o _ d.drew | exact c.o _ d | exact c.o _ n | exact c.o _ m | exact c.o _ g))
         clear k K;refine wpAnyH_take (i:=17) (v:=?v10) rfl (by kernel_rfl) (by kernel_rfl) (by kernel_rfl) (λ _ _ _ h=>h) (bo ⟨by rfl,?y10⟩) (by assumption) ?r10
         case y10=>(intro w p;(try dsimp only at p);go_simp;try with_reducible rfl)
         refine wpAnyH_done (by kernel_rfl) ?_ _;refine bs ?_;have L:=q.trans (g.mono q.size);clear c A z;go_wp2_with fail;go_ret;exact⟨by rw[HR.o];try rfl,L⟩
        exact bn
       exact bn
      exact bn
     refine bm rfl (λ K k=>?_) ?_
     .go_simp
      (first | (go_at_call 237;(with_reducible refine (A.o _ d.drew).mono ?_);rintro F I ⟨b,o,rfl,r,n,G⟩) | (go_at_call 237;(with_reducible refine (A.o _ m).mono ?_);rintro F I ⟨b,o,rfl,r,g,G⟩) | (go_at_call 212;(with_reducible refine (z.o _ d.drew).mono ?_);rintro e3 H ⟨rfl,m,y⟩) | (go_at_call 212;(with_reducible refine (z.o _ n).mono ?_);rintro e3 H ⟨rfl,g,y⟩;have YM:=Below.cell_of y r))
      try go_wp2_with fail
      refine k.out _ _ ?_ (λ f=>?_)
      . ((try dsimp only);(first | exact c.o _ d.drew | exact c.o _ d | exact c.o _ n | exact c.o _ m | exact c.o _ g))
      clear k K;refine wpAnyH_ready (rs:=[9]) (by kernel_rfl) (by simp) ?_;refine bm rfl (λ K k=>?_) ?_
      .go_simp
       try go_wp2_with fail
       refine k.out _ _ ?_ (λ f=>?_)
       . ((try dsimp only);(first | exact c.o _ d.drew | exact c.o _ d | exact c.o _ n | exact c.o _ m | exact c.o _ g))
       clear k K;refine wpAnyH_ready (rs:=[15]) (by kernel_rfl) (by simp) ?_;refine bm rfl (λ K k=>?_) ?_
       .go_simp
        try go_wp2_with fail
        refine k.out _ _ ?_ (λ f=>?_)
        . ((try dsimp only);(first | exact c.o _ d.drew | exact c.o _ d | exact c.o _ n | exact c.o _ m | exact c.o _ g))
        clear k K;refine wpAnyH_ready (rs:=[16]) (by kernel_rfl) (by simp) ?_;refine bm rfl (λ K k=>?_) ?_
        .go_simp
         try go_wp2_with fail
         refine k.out _ _ ?_ (λ f=>?_)
         . ((try dsimp only);(first | exact c.o _ d.drew | exact c.o _ d | exact c.o _ n | exact c.o _ m | exact c.o _ g))
         clear k K;refine wpAnyH_take (i:=17) (v:=?v11) rfl (by kernel_rfl) (by kernel_rfl) (by kernel_rfl) (λ _ _ _ h=>h) (bo ⟨by rfl,?y11⟩) (by assumption) ?r11
         case y11=>(intro w p;(try dsimp only at p);go_simp;try with_reducible rfl)
         refine wpAnyH_done (by kernel_rfl) ?_ _;refine bs ?_;have L:=q.trans (g.mono q.size);clear c A z;go_wp2_with fail;go_ret;exact⟨by rw[HR.o];try rfl,L⟩
        exact bn
       exact bn
      exact bn
     exact bn
    refine bm rfl (λ K k=>?_) ?_
    .go_simp
     (first | (go_at_call 237;(with_reducible refine (A.o _ d.drew).mono ?_);rintro F I ⟨b,o,rfl,r,n,G⟩) | (go_at_call 237;(with_reducible refine (A.o _ m).mono ?_);rintro F I ⟨b,o,rfl,r,g,G⟩) | (go_at_call 212;(with_reducible refine (z.o _ d.drew).mono ?_);rintro e3 H ⟨rfl,m,y⟩) | (go_at_call 212;(with_reducible refine (z.o _ n).mono ?_);rintro e3 H ⟨rfl,g,y⟩;have YM:=Below.cell_of y r))
     try go_wp2_with fail
     refine k.out _ _ ?_ (λ f=>?_)
     . ((try dsimp only);(first | exact c.o _ d.drew | exact c.o _ d | exact c.o _ n | exact c.o _ m | exact c.o _ g))
     clear k K;refine wpAnyH_ready (rs:=[8]) (by kernel_rfl) (by simp) ?_;refine bm rfl (λ K k=>?_) ?_
     .go_simp
      try go_wp2_with fail
      refine k.out _ _ ?_ (λ f=>?_)
      . ((try dsimp only);(first | exact c.o _ d.drew | exact c.o _ d | exact c.o _ n | exact c.o _ m | exact c.o _ g))
      clear k K;refine wpAnyH_ready (rs:=[9]) (by kernel_rfl) (by simp) ?_;refine bm rfl (λ K k=>?_) ?_
      .go_simp
       try go_wp2_with fail
       refine k.out _ _ ?_ (λ f=>?_)
       . ((try dsimp only);(first | exact c.o _ d.drew | exact c.o _ d | exact c.o _ n | exact c.o _ m | exact c.o _ g))
       clear k K;refine wpAnyH_ready (rs:=[15]) (by kernel_rfl) (by simp) ?_;refine bm rfl (λ K k=>?_) ?_
       .go_simp
        try go_wp2_with fail
        refine k.out _ _ ?_ (λ f=>?_)
        . ((try dsimp only);(first | exact c.o _ d.drew | exact c.o _ d | exact c.o _ n | exact c.o _ m | exact c.o _ g))
        clear k K;refine wpAnyH_ready (rs:=[16]) (by kernel_rfl) (by simp) ?_;refine bm rfl (λ K k=>?_) ?_
        .go_simp
         try go_wp2_with fail
         refine k.out _ _ ?_ (λ f=>?_)
         . ((try dsimp only);(first | exact c.o _ d.drew | exact c.o _ d | exact c.o _ n | exact c.o _ m | exact c.o _ g))
         clear k K;refine wpAnyH_take (i:=17) (v:=?v12) rfl (by kernel_rfl) (by kernel_rfl) (by kernel_rfl) (λ _ _ _ h=>h) (bo ⟨by rfl,?y12⟩) (by assumption) ?r12
         case y12=>(intro w p;(try dsimp only at p);go_simp;try with_reducible rfl)
         refine wpAnyH_done (by kernel_rfl) ?_ _;refine bs ?_;have L:=q.trans (g.mono q.size);clear c A z;go_wp2_with fail;go_ret;exact⟨by rw[HR.o];try rfl,L⟩
        exact bn
       exact bn
      exact bn
     exact bn
    exact bn
   refine bm rfl (λ K k=>?_) ?_
   .go_simp
    (first | (go_at_call 237;(with_reducible refine (A.o _ d.drew).mono ?_);rintro F I ⟨b,o,rfl,r,n,G⟩) | (go_at_call 237;(with_reducible refine (A.o _ m).mono ?_);rintro F I ⟨b,o,rfl,r,g,G⟩) | (go_at_call 212;(with_reducible refine (z.o _ d.drew).mono ?_);rintro e3 H ⟨rfl,m,y⟩) | (go_at_call 212;(with_reducible refine (z.o _ n).mono ?_);rintro e3 H ⟨rfl,g,y⟩;have YM:=Below.cell_of y r))
    try go_wp2_with fail
    refine k.out _ _ ?_ (λ f=>?_)
    . ((try dsimp only);(first | exact c.o _ d.drew | exact c.o _ d | exact c.o _ n | exact c.o _ m | exact c.o _ g))
    clear k K;refine wpAnyH_ready (rs:=[5]) (by kernel_rfl) (by simp) ?_;refine bm rfl (λ K k=>?_) ?_
    .go_simp
     try go_wp2_with fail
     refine k.out _ _ ?_ (λ f=>?_)
     . ((try dsimp only);(first | exact c.o _ d.drew | exact c.o _ d | exact c.o _ n | exact c.o _ m | exact c.o _ g))
     clear k K;refine wpAnyH_ready (rs:=[8]) (by kernel_rfl) (by simp) ?_;refine bm rfl (λ K k=>?_) ?_
     .go_simp
      try go_wp2_with fail
      refine k.out _ _ ?_ (λ f=>?_)
      . ((try dsimp only);(first | exact c.o _ d.drew | exact c.o _ d | exact c.o _ n | exact c.o _ m | exact c.o _ g))
      clear k K;refine wpAnyH_ready (rs:=[9]) (by kernel_rfl) (by simp) ?_;refine bm rfl (λ K k=>?_) ?_
      .go_simp
       try go_wp2_with fail
       refine k.out _ _ ?_ (λ f=>?_)
       . ((try dsimp only);(first | exact c.o _ d.drew | exact c.o _ d | exact c.o _ n | exact c.o _ m | exact c.o _ g))
       clear k K;refine wpAnyH_ready (rs:=[15]) (by kernel_rfl) (by simp) ?_;refine bm rfl (λ K k=>?_) ?_
       .go_simp
        try go_wp2_with fail
        refine k.out _ _ ?_ (λ f=>?_)
        . ((try dsimp only);(first | exact c.o _ d.drew | exact c.o _ d | exact c.o _ n | exact c.o _ m | exact c.o _ g))
        clear k K;refine wpAnyH_ready (rs:=[16]) (by kernel_rfl) (by simp) ?_;refine bm rfl (λ K k=>?_) ?_
        .go_simp
         try go_wp2_with fail
         refine k.out _ _ ?_ (λ f=>?_)
         . ((try dsimp only);(first | exact c.o _ d.drew | exact c.o _ d | exact c.o _ n | exact c.o _ m | exact c.o _ g))
         clear k K;refine wpAnyH_take (i:=17) (v:=?v13) rfl (by kernel_rfl) (by kernel_rfl) (by kernel_rfl) (λ _ _ _ h=>h) (bo ⟨by rfl,?y13⟩) (by assumption) ?r13
         case y13=>(intro w p;(try dsimp only at p);go_simp;try with_reducible rfl)
         refine wpAnyH_done (by kernel_rfl) ?_ _;refine bs ?_;have L:=q.trans (g.mono q.size);clear c A z;go_wp2_with fail;go_ret;exact⟨by rw[HR.o];try rfl,L⟩
        exact bn
       exact bn
      exact bn
     exact bn
    exact bn
   exact bn
  refine bm rfl (λ K k=>?_) ?_
  .go_simp
   (first | (go_at_call 237;(with_reducible refine (A.o _ d.drew).mono ?_);rintro F I ⟨b,o,rfl,r,n,G⟩) | (go_at_call 237;(with_reducible refine (A.o _ m).mono ?_);rintro F I ⟨b,o,rfl,r,g,G⟩) | (go_at_call 212;(with_reducible refine (z.o _ d.drew).mono ?_);rintro e3 H ⟨rfl,m,y⟩) | (go_at_call 212;(with_reducible refine (z.o _ n).mono ?_);rintro e3 H ⟨rfl,g,y⟩;have YM:=Below.cell_of y r))
   try go_wp2_with fail
   refine k.out _ _ ?_ (λ f=>?_)
   . ((try dsimp only);(first | exact c.o _ d.drew | exact c.o _ d | exact c.o _ n | exact c.o _ m | exact c.o _ g))
   clear k K;refine wpAnyH_ready (rs:=[4]) (by kernel_rfl) (by simp) ?_;refine bm rfl (λ K k=>?_) ?_
   .go_simp
    try go_wp2_with fail
    refine k.out _ _ ?_ (λ f=>?_)
    . ((try dsimp only);(first | exact c.o _ d.drew | exact c.o _ d | exact c.o _ n | exact c.o _ m | exact c.o _ g))
    clear k K;refine wpAnyH_ready (rs:=[5]) (by kernel_rfl) (by simp) ?_;refine bm rfl (λ K k=>?_) ?_
    .go_simp
     try go_wp2_with fail
     refine k.out _ _ ?_ (λ f=>?_)
     . ((try dsimp only);(first | exact c.o _ d.drew | exact c.o _ d | exact c.o _ n | exact c.o _ m | exact c.o _ g))
     clear k K;refine wpAnyH_ready (rs:=[8]) (by kernel_rfl) (by simp) ?_;refine bm rfl (λ K k=>?_) ?_
     .go_simp
      try go_wp2_with fail
      refine k.out _ _ ?_ (λ f=>?_)
      . ((try dsimp only);(first | exact c.o _ d.drew | exact c.o _ d | exact c.o _ n | exact c.o _ m | exact c.o _ g))
      clear k K;refine wpAnyH_ready (rs:=[9]) (by kernel_rfl) (by simp) ?_;refine bm rfl (λ K k=>?_) ?_
      .go_simp
       try go_wp2_with fail
       refine k.out _ _ ?_ (λ f=>?_)
       . ((try dsimp only);(first | exact c.o _ d.drew | exact c.o _ d | exact c.o _ n | exact c.o _ m | exact c.o _ g))
       clear k K;refine wpAnyH_ready (rs:=[15]) (by kernel_rfl) (by simp) ?_;refine bm rfl (λ K k=>?_) ?_
       .go_simp
        try go_wp2_with fail
        refine k.out _ _ ?_ (λ f=>?_)
        . ((try dsimp only);(first | exact c.o _ d.drew | exact c.o _ d | exact c.o _ n | exact c.o _ m | exact c.o _ g))
        clear k K;refine wpAnyH_ready (rs:=[16]) (by kernel_rfl) (by simp) ?_;refine bm rfl (λ K k=>?_) ?_
        .go_simp
         try go_wp2_with fail
         refine k.out _ _ ?_ (λ f=>?_)
         . ((try dsimp only);(first | exact c.o _ d.drew | exact c.o _ d | exact c.o _ n | exact c.o _ m | exact c.o _ g))
         clear k K;refine wpAnyH_take (i:=17) (v:=?v14) rfl (by kernel_rfl) (by kernel_rfl) (by kernel_rfl) (λ _ _ _ h=>h) (bo ⟨by rfl,?y14⟩) (by assumption) ?r14
         case y14=>(intro w p;(try dsimp only at p);go_simp;try with_reducible rfl)
         refine wpAnyH_done (by kernel_rfl) ?_ _;refine bs ?_;have L:=q.trans (g.mono q.size);clear c A z;go_wp2_with fail;go_ret;exact⟨by rw[HR.o];try rfl,L⟩
        exact bn
       exact bn
      exact bn
     exact bn
    exact bn
   exact bn
  exact bn
 exact bn
theorem YN (e:Ex):e.fault=0->e.parts<=900000->fG 212 e:=by
 induction e using Ex.ind with
 | h e ih =>
  intro q t B cs w k j b g;have r:=parts_eq e;have m:∀ a∈e.ar,fG 212 a:=λ a o=>ih a o (nY q a o) (by have:=qj o;omega);have p:∀ a∈e.ar,a.text.length+100<=1000*a.parts:=λ a o=>TJ a (nY q a o);have f:∀ a∈e.ar,a.text.length<=1000000000:=λ a o=>by have:=p a o;have:=qj o;omega
  have i:∀ l,((insL l e.ar).map bw).sum+98*e.ar.length<=999999000:=λ l=>by have:=(rP l p).1;omega
  have c:e.ar.length<=999999:=by have:=xQ e.ar;omega
  have d:=nX q;have P:=kG d;have u:=P.k;by_cases k1:e.k=1
  .exact ae3 e k1 m f i c d B cs w k j b g
  by_cases k2:e.k=2
  .exact ae4 e k2 m f i c d B cs w k j b g
  by_cases k3:e.k=3
  .exact ae5 e k3 m f i c d B cs w k j b g
  by_cases k5:e.k=5
  .exact Vr e k5 m f i c d B cs w k j b g
  have n:e.k=4:=by omega
  have s:=P.op4 n;by_cases o1:e.op=1
  .exact YJ e n o1 m f i c d B cs w k j b g
  by_cases o2:e.op=2
  .exact YG e n o2 m f i c d B cs w k j b g
  by_cases o3:e.op=3
  .exact acd e n o3 m f i c d B cs w k j b g
  by_cases o4:4<=e.op/\e.op<=11
  .exact YH e n o4 m f i c d B cs w k j b g
  by_cases o5:e.op=15\/e.op=16
  .exact YI e n o5 m f i c d B cs w k j b g
  by_cases o6:e.op=17\/e.op=18\/e.op=19
  .exact Vq e n o6 m f i c d B cs w k j b g
  by_cases o7:e.op=20
  .exact YK e n o7 m f i c d B cs w k j b g
  exact YL e n (by omega) m f i c d B cs w k j b g
noncomputable def zF (e:Ex):List UInt8 × Int:=if dh e≠0 then ([],dh e) else if 4000<e.text.length then ([],2) else (e.text,0)
theorem OX {e:Ex} (h:dh e=0):e.fault=0/\e.parts<=300:=by
 unfold dh at h;by_cases c:300<e.parts\/20<e.depth
 .rw[if_pos c] at h;exact absurd h (by decide)
 .rw[if_neg c] at h;exact⟨h,by omega⟩
theorem Vs (e:Ex) (B:Nat) (cs:List Value) (w:World) (J:aZ w B e cs) (H:B<=w.heap.size) (G:e.parts<=100000000) (j:Tab w) (S:Mx w) :
  IE 175 #[.agg cs.toArray] w (.tuple #[bi (tx (zF e).1),bg bh (zF e).2]):=by
 have X:=qh J;have Q:=qh (λ w' (g:IY w w')=>br (aA j g) (S.below g));obtain⟨R,F⟩:=af (zF e);obtain⟨R1,R2⟩:=R;rw[F];obtain⟨hn,hs,hl,ha,J,Y,hi⟩:=J;rename_i o r k l cs;have L:=qh (λ w' (g:IY w w')=>X.o.keep (g.mono H));have U:=qh G;clear J Y hi j S G;obtain⟨f,i⟩:=af (dh e);show Calls Tryz.prog 175 #[.agg (BC e o r k e.ar.length l)] w _;by_cases f0:f=0;rotate_left
 .have bf:(f != 0)=true:=by simpa using f0
  have I:=qh (show ([],f)=(R1,R2) by rw[<- F];unfold zF;rw[if_pos (by rw[i];exact f0),i]);have O:=qh i;clear F i f0;go_enter Tryz.func175,Tryz.ntmps175;go_upto_region 1 with (fail);obtain⟨W,b⟩:=aC ((w.alloc (.cells (BC e o r k e.ar.length l) 67 (0,0))));have a:IY w W:=by rw[b];exact ((Below.refl _ w).alloc (bq _) _)
  have B0:ah W (w.heap.size) 67 (BC e o r k e.ar.length l):=by
   rw[b];have:=ah.new w 67 (BC e o r k e.ar.length l);exact this
  have q:W.heap.size=w.heap.size+1:=by rw[b];simp
  rw[<- b];obtain⟨y,D,C,A,v,u,z,s⟩:=ah.c8 B0;clear b q B0;go_wp2_with fail;refine (oI e B _ W (L.o W a) (bp H a.size) U.o).mono ?_;rw[O.o];rintro K V ⟨rfl,p⟩;clear y D C A v u z s;go_wp2_with fail;go_ret2;exact⟨by have h:=I.o;injection h with h1 h2;rw[<- h1,<- h2];rfl,a.trans (p.mono a.size)⟩
 subst f0;obtain⟨M,G⟩:=OX i;have P:=TJ e M;obtain⟨t,d⟩:=af (tx e.text);have x:t.size=e.text.length:=by rw[<- d,lQ]
 have T:=qh (λ w' (g:IY w w')=>YN e M (by omega) B _ w' (L.o w' g) (bp H g.size) (Q.o w' g).1 (Q.o w' g).2);simp only[d] at T;have I:=qh (show (if 4000<t.size then (([]:List UInt8),(2:Int)) else (e.text,0))=(R1,R2) by rw[<- F,x];unfold zF;rw[if_neg (show ¬ dh e≠0 by rw[i];decide)]);have jP:=qh d;have O:=qh i;have st:t.size<=300000:=by omega
 clear F i d x P M G;go_enter Tryz.func175,Tryz.ntmps175;go_upto_region 1 with (fail);obtain⟨W,b⟩:=aC ((w.alloc (.cells (BC e o r k e.ar.length l) 67 (0,0))));have a:IY w W:=by rw[b];exact ((Below.refl _ w).alloc (bq _) _)
 have B0:ah W (w.heap.size) 67 (BC e o r k e.ar.length l):=by
  rw[b];have:=ah.new w 67 (BC e o r k e.ar.length l);exact this
 have q:W.heap.size=w.heap.size+1:=by rw[b];simp
 rw[<- b];obtain⟨y,D,C,A,v,u,z,s⟩:=ah.c8 B0;clear b q;go_wp2_with fail;refine (oI e B _ W (L.o W a) (bp H a.size) U.o).mono ?_;rw[O.o];rintro K Z ⟨rfl,n⟩;have N:=a.trans (n.mono a.size);have B0:=B0.below n B0.lt;clear y D C A v u z s n;obtain⟨y,D,C,A,v,u,z,s⟩:=ah.c8 B0;clear B0;go_wp2_with fail;refine (T.o Z N).mono ?_;rintro K V ⟨rfl,p⟩;clear y D C A v u z s;have E:=N.trans (p.mono N.size);by_cases c:4000<t.size
 .have c':(4000:Int)<(t.size:Nat):=by omega
  have m:=qh (show (([]:List UInt8),(2:Int))=(R1,R2) by rw[<- I.o,if_pos c]);clear c;go_wp2_with fail;go_ret2;exact⟨by have h:=m.o;injection h with h1 h2;rw[<- h1,<- h2];rfl,E⟩
 .have c':¬ (4000:Int)<(t.size:Nat):=by omega
  have m:=qh (show (e.text,(0:Int))=(R1,R2) by rw[<- I.o,if_neg c]);clear c;go_wp2_with fail;go_ret2;exact⟨by have h:=m.o;injection h with h1 h2;rw[<- h1,<- h2,jP.o];try rfl,E⟩
end Go.Proofs.YtcnagconagpkcaaGreatDoor
namespace Go.Proofs.YtcnagconagpkcaaGreatDoor
open Go.RowKit
theorem Eu {P:Program} {w:World} {base n size:Nat} {t ty e:TypeId} {i:TypeInfo} {v:Value} {h:List Value} (d:P.underlying t=some (.slice e)) (f:P.info? e=some i) (_:i.size=size) (b:w.ownsRow base e size v n h) :
  (Builtin.append_ #[t,t] ty #[v,bj none 0 0]).run P w = .ok v w:=by
 rcases b.2 with ⟨rfl,rfl⟩ | ⟨g,cap,k,rfl,m,o,a,j,l,c⟩
 .simp[Builtin.append_,run_underlying d,sizeOf,typeInfo,f,Builtin.lenOf,Builtin.firstCells]
 .have p:n+0<=cap:=a;simp[Builtin.append_,run_underlying d,sizeOf,typeInfo,f,Builtin.lenOf,Builtin.firstCells,loadCells,a,storeCells]
theorem zG {P:Program} {w:World} {d:Array Oper} {b:List Oper} {o:Oper} {a:Act} {Q:Exit->Act->World->Prop} (g:o.guard=none) (s x:Operand) (t:TypeId)
  (r:o.op = .call { callee:=.builtin .append,args:=#[s,x],argTypes:=#[t,t] })
  (base:Nat) (e:TypeId) (i:TypeInfo) (size:Nat) (m:P.underlying t=some (.slice e)) (u:P.info? e=some i) (c:i.size=size)
  (v:Value) (n:Nat) (k:List Value) (q:a.eval s=v) (f:w.ownsRow base e size v n k) (p:a.eval x = bj none 0 0)
  (h:wpList P d Q b (a.put o.dst v) w):wpList P d Q (o :: b) a w:=by
 refine wpList_plain g λ _ l=>?_;have j:=Eu (P:=P) (w:=w) (ty:=o.type) m u c f;unfold Oper.wp execOp;simp only[r,resolve,invoke,builtin,Sem.run_bind,Sem.run_pure,Result.andThen_ok,List.map_toArray,List.map_cons,List.map_nil,q,p,j];exact l _ _ h
end Go.Proofs.YtcnagconagpkcaaGreatDoor
namespace Go.Proofs.YtcnagconagpkcaaGreatDoor
open Go.RowKit
attribute [local go_sem ↓] Go.wp_at_zero Go.wp_at_succ
attribute [local go_sem ↓] ld_item st_item ld_node st_node ld_ans st_ans ld_part st_part ld_rule st_rule ld_form st_form
set_option maxHeartbeats 4000000
set_option maxRecDepth 100000
theorem Vt {w:World} {B0 j y r u:Nat} {x:nM} {f:bC} {N:List aj} {K:bu} (h:bF w B0 j y r u x f N K) {p k l n i:Nat} (o:iQ N) (b:w.cell? ⟨p,0,none⟩=some (bk (some ⟨j,0,none⟩))) (g:w.cell? ⟨k,0,none⟩=some (bk (some ⟨p,0,none⟩))) (c:w.cell? ⟨l,0,none⟩=some (bg bh n)) (E:n<N.length) (H:i<N.length) :
  IE 177 (#[bg bh i] ++ #[bk (some ⟨k,0,none⟩),bk (some ⟨l,0,none⟩)]) w (.bool (je N i n)):=by
 have s:=qh h;have A:=qh o;obtain⟨D,a⟩:=af (je N i n);have m:=qh (Later.call (W:=w) (f:=174) (args:=#[bk (some ⟨j,0,none⟩),bg bh i,bg bh n]) (v:=.bool D) λ w' B=>(yg (s.o.keep B) A.o i n H E).mono λ _ _ ⟨z,C⟩=>⟨by rw[z,a],C⟩);have G:=Later.cell b;have F:=Later.cell g;have q:=Later.cell c;rw[a];clear h o b g c a;show Calls Tryz.prog 177 #[bg bh i,bk (some ⟨k,0,none⟩),bk (some ⟨l,0,none⟩)] w _;go_enter Tryz.func177,Tryz.ntmps177;go_upto_region 1 with (fail);refine aF (by kernel_rfl) (by kernel_rfl) ?_
 repeat (go_big_quiet_step (first | (with_reducible exact m.o _)))
 refine wpQuiet_nil ?_;intro I d;have t:=dY d;clear d m G F q;go_wp2;go_ret;exact⟨rfl,t⟩
theorem ae6 (e:Ex):X8 e=(zF e).2:=by
 unfold X8 zF;split
 .rfl
 .split <;> rfl
theorem YO (e:Ex) (a:List aG) (b:List aQ) (at_:List ByteArray):Jy e a b at_=jY e a b at_:=rfl
theorem oZ {w:World} {B n c size:Nat} {A:Option Addr} {e:TypeId} {g:List Value} (h:w.ownsRow B e size (bj A n c) n g):n<=c:=by
 rcases h.2 with ⟨i,-⟩ | ⟨j,f,d,b,-,-,a,-⟩
 .injection i with _ a h2;omega
 .injection b with _ h2 h3;omega
theorem YP {w:World} {B0 k j a g:Nat} {x:nM} {f:bC} {N:List aj} {K:bu} (h:bF w B0 k j a g x f N K):∀ d∈bY N,d.loops.length<=1048576:=by
 intro d l;obtain⟨y,m,rfl⟩:=List.mem_map.1 l;obtain⟨i,n,rfl⟩:=List.mem_iff_getElem.1 (List.mem_filter.1 m).1;obtain⟨ad,cs,e,q,⟨o,A,c,rfl,hit,b,p,-⟩,r⟩:=h.nodes.at_ n;show N[i].lo.length<=1048576;omega
theorem Ri {j b:World} {B:Nat} {v m:Value} {l more:List aG} {a c:List Value} (d:j.ownsRow B 51 3 v l.length a) (g:∀ i (h:i<l.length),vV j B l[i] ((a.drop (i*3)).take 3)) (r:j.grownBy b v.ownBlock)
  (k:b.ownsRow B 51 3 m (l.length+more.length) (a ++ c)) (n:∀ i (h:i<more.length),lu b b.heap.size more[i] ((c.drop (i*3)).take 3)) (u:l.length+more.length<=maxLen) :
  ∃ f c4,m = bj f (l ++ more).length c4/\bU b b.heap.size f (l ++ more)/\(l ++ more).length<=c4:=by
 obtain⟨f,c4,rfl⟩:=iU k;have w:a.length=l.length*3:=d.1;refine⟨f,c4,by rw[bt],⟨by rw[bt];exact u,a ++ c,?_,λ i x=>?_⟩,?_⟩
 .rw[bt];exact Reads.ig k
 .rw[bt] at x;by_cases hlt:i<l.length
  .rw[List.getElem_append_left hlt,List.drop_append_of_le_length (by omega),List.take_append_of_le_length (by rw[List.length_drop];omega)];exact (gZ.grown (g i hlt) d r).at_
  .have e:(a ++ c).drop (i*3)=c.drop ((i - l.length)*3):=by
    rw[List.drop_append,bA (by omega),List.nil_append,w,<- Nat.sub_mul]
   rw[List.getElem_append_right (by omega),e];exact n (i - l.length) (by omega)
 .rw[bt];rcases k.2 with ⟨t,-⟩ | ⟨y,s,p,o,-,-,q,-⟩
  .injection t with _ d g;omega
  .injection o with _ d g;omega
theorem yw {w:World} {B0 U m1 m2 m3:Nat} {x:nM} {f:bC} {N:List aj} {K:bu} (h:bF w B0 U m1 m2 m3 x f N K) {r:Nat} (an:w.cell? ⟨r,0,none⟩=some (bk (some ⟨U,0,none⟩))) (aW:r<w.heap.size) (hN:iQ N) {more:List aG} {AM:Option Addr} {cm B n:Nat} {e:Ex} {cs:List Value} (ac:bU w w.heap.size AM more) (a7:(AM=none/\cm=0/\more = [])\/(∃ m,more = [m])) (hx:aZ w B e cs) (hB:B<=w.heap.size) (hn:n<N.length)
  (hp:e.parts<=1000000) (aa:Tab w) (aE:Mx w) :
  IE 120 #[bk (some ⟨r,0,none⟩),.agg cs.toArray,bg bh n,bj AM more.length cm] w (.tuple #[bg bh (bT N K n more e).1,bg bh (bT N K n more e).2]):=by
 have HX:=qh hx;have H:=qh (br h (br an (br aW (br hN ac))));have bd:=hx;obtain⟨-,-,-,-,-,-,-⟩:=bd;rename_i G D E F cs;obtain⟨wb,z⟩:=aC (((w.alloc (.cells #[bk (some ⟨r,0,none⟩)] 153 (0,0))).alloc (.cells (BC e G D E e.ar.length F) 67 (0,0))).alloc (.cells #[bg bh n] 3 (0,0)));have s:IY w wb:=z▸(((Below.refl w.heap.size w).alloc (bq _) _).alloc (by simp) _).alloc (by simp;omega) _;have a8:ah wb w.heap.size 153 #[bk (some ⟨r,0,none⟩)]:=z▸((ah.new w _ _).alloc _).alloc _;have p:ah wb (w.heap.size+1) 67 (BC e G D E e.ar.length F):=by
  have:=((ah.new (w.alloc (.cells #[bk (some ⟨r,0,none⟩)] 153 (0,0))) 67 (BC e G D E e.ar.length F)).alloc (.cells #[bg bh n] 3 (0,0)));rw[z];simpa using this
 have ba:ah wb (w.heap.size+1+1) 3 #[bg bh n]:=by
  have:=(ah.new ((w.alloc (.cells #[bk (some ⟨r,0,none⟩)] 153 (0,0))).alloc (.cells (BC e G D E e.ar.length F) 67 (0,0))) 3 #[bg bh n]);rw[z];simpa using this
 have HS:=qh (show ∀ w',IY wb w'->w'.cell? ⟨r,0,none⟩=some (bk (some ⟨U,0,none⟩))/\w'.cell? ⟨w.heap.size,0,none⟩=some (bk (some ⟨r,0,none⟩))/\w'.cell? ⟨w.heap.size+1+1,0,none⟩=some (bg bh n)/\w'.cell? ⟨w.heap.size+1,0,none⟩=some (bg bh e.k)/\w'.cell? ⟨w.heap.size+1,1,none⟩=some (bg bh e.op)/\w'.cell? ⟨w.heap.size+1,2,none⟩=some (bi e.nm)/\w'.cell? ⟨w.heap.size+1,3,none⟩=some (bg bh e.v.k)/\w'.cell? ⟨w.heap.size+1,4,none⟩=some (bg bh e.v.n)/\w'.cell? ⟨w.heap.size+1,5,none⟩=some (bi e.v.s)/\w'.cell? ⟨w.heap.size+1,6,none⟩=some (bj G e.v.l.length D)/\w'.cell? ⟨w.heap.size+1,7,none⟩=some (bj E e.ar.length F) from λ w' b =>
  ⟨Below.cell_of (s.trans (b.mono s.size)) an,Below.cell_of b (a8.cell 0),Below.cell_of b (ba.cell 0),Below.cell_of b (p.cell 0),Below.cell_of b (p.cell 1),Below.cell_of b (p.cell 2),Below.cell_of b (p.cell 3),Below.cell_of b (p.cell 4),Below.cell_of b (p.cell 5),Below.cell_of b (p.cell 6),Below.cell_of b (p.cell 7)⟩)
 have kX:=qh (show ∀ w',IY wb w'->bF w' B0 U m1 m2 m3 x f N K/\r<w'.heap.size/\bU w' w'.heap.size AM more/\aZ w' B e (ai e G D E F)/\B<=w'.heap.size/\Tab w'/\Mx w' from λ w' b=>by
  have c:=s.trans (b.mono s.size);exact⟨H.o.1.keep c,bB aW c.size,aB.QN (λ _ _ h=>h.up c.size) (ac.keep c) c.size,HX.o.keep (c.mono hB),bp hB c.size,aA aa c,aE.below c⟩)
 have A:=qh (bT.eq_def N K n more e);obtain⟨R,hR⟩:=af (bT N K n more e);rw[hR] at A ⊢;have H0:=kX.o wb (Below.refl _ _);have K1:=qh (show Calls Tryz.prog 175 #[.agg (BC e G D E e.ar.length F)] wb _ from Vs e B _ wb H0.2.2.2.1 H0.2.2.2.2.1 (by omega) H0.2.2.2.2.2.1 H0.2.2.2.2.2.2);rw[<- ae6] at K1;obtain⟨z1,Q⟩:=af (X8 e);obtain⟨z2,I⟩:=af (Gm N e n more);have K2:=qh (show ∀ w',IY wb w'->Calls Tryz.prog 176 #[bk (some ⟨r,0,none⟩),.agg (BC e G D E e.ar.length F),bg bh n,bj AM more.length cm] w' λ en C=>en = bl (bg bh z2)/\IY w' C from λ w' b=>by
  have h:=kX.o w' b;rw[<- I];exact Vp h.1 (HS.o w' b).1 h.2.1 H.o.2.2.2.1 h.2.2.1 h.2.2.2.1 h.2.2.2.2.1 hn)
 rw[Q] at K1 A;rw[I] at A;clear Q I hR h an aa aE ac H0 hx;obtain⟨a1,a2,a3,gG,fZ,fV,gI,gJ,gK,gQ,fM⟩:=HS.o wb (Below.refl _ _);show Calls Tryz.prog 120 #[bk (some ⟨r,0,none⟩),.agg (BC e G D E e.ar.length F),bg bh n,bj AM more.length cm] w _;go_enter Tryz.func120,Tryz.ntmps120;go_upto_region 1 with (fail);rw[<- z];clear z;by_cases P:z1=0;rotate_left
 .have HE:=qh (A.o.trans (if_pos P));obtain⟨g0,a5⟩:=fU P;clear P;go_wp2_with (go_at_call 175;(with_reducible refine K1.o.mono ?_);rintro e1 w1 ⟨rfl,l⟩);go_ret2;exact⟨by rw[HE.o];rfl,s.trans (l.mono s.size)⟩
 have HG:=qh (A.o.trans (if_neg (λ h=>h P)));clear A;subst P;go_upto_region 4 with (go_at_call 175;(with_reducible refine K1.o.mono ?_);rintro e1 w1 ⟨rfl,l⟩);clear a1 a2 a3 gG fZ fV gI gJ gK gQ fM;obtain⟨a1,a2,a3,gG,fZ,fV,gI,gJ,gK,gQ,fM⟩:=HS.o w1 l;by_cases T:z2=0;rotate_left
 .have HE:=qh (HG.o.trans (if_pos T));obtain⟨g0,a5⟩:=fU T;clear T;go_wp2_with (go_at_call 176;(with_reducible refine (K2.o _ l).mono ?_);rintro e1 w2 ⟨rfl,o⟩);go_ret2;exact⟨by rw[HE.o];rfl,s.trans ((l.trans (o.mono l.size)).mono s.size)⟩
 have A:=qh (HG.o.trans (if_neg (λ h=>h T)));clear HG;subst T;go_upto_region 7 with (go_at_call 176;(with_reducible refine (K2.o _ l).mono ?_);rintro e1 w2 ⟨rfl,o⟩);have o:=l.trans (o.mono l.size);clear a1 a2 a3 gG fZ fV gI gJ gK gQ fM;obtain⟨a1,a2,a3,gG,fZ,fV,gI,gJ,gK,gQ,fM⟩:=HS.o w2 o;have UX:∀ (a:Array Value) (W:World),(callFunc 177 a).run Tryz.prog W = .ok (.enter 177 a) W:=λ a W=>by simp[callFunc,go_sem,Tryz.func177,Tryz.f177]
 have Y:=(kX.o w2 o).1;have K3:=qh (JE Y 177 #[bk (some ⟨w.heap.size,0,none⟩),bk (some ⟨w.heap.size+1+1,0,none⟩)] UX (λ i=>je N i n) (λ i w' hi b=>by
  have c:=o.trans (b.mono o.size);exact Vt (kX.o w' c).1 H.o.2.2.2.1 (HS.o w' c).1 (HS.o w' c).2.1 (HS.o w' c).2.2.1 hn hi))
 obtain⟨L,hL⟩:=af (kL N K n);rw[show di N K (λ i=>je N i n) N.length=L from hL] at K3;have bf:L.length<=301:=by
  rw[<- hL];exact bp (zu _) H.o.1.nodes.1
 rw[hL] at A;clear UX Y hL K2 K1;obtain⟨i0,aq,bb,Q,I⟩:=info_parts Ov;have O:=qh o;rcases a7 with ⟨rfl,rfl,rfl⟩ | ⟨m,rfl⟩
 case' inl =>
  rw[bD] at A;go_upto_region 8 with (first
   | (go_at_call 67;(with_reducible refine K3.o.mono ?_);rintro e3 w4 ⟨⟨v3,rfl,xs,d,J⟩,t⟩;obtain⟨A4,c4,rfl⟩:=iU d)
   | (at_builtin;refine zG rfl _ _ 40 rfl w2.heap.size 51 i0 3 Tryz.underlying40 aq Q _ L.length xs rfl d rfl ?_))
  have V:=qh (br (wC.cells ⟨xs,d,J⟩ (by unfold maxLen;omega)) (oZ d));have k:=O.o.trans (t.mono O.o.size);clear d J t;obtain⟨M,Z⟩:=af (L);rw[Z] at A V;rw[Z];clear Z
 case' inr =>
  obtain⟨M,Z⟩:=af (L ++ [m]);rw[Z] at A;obtain⟨-,ys,hr,aw⟩:=H.o.2.2.2.2;obtain⟨ad,rfl,-,av⟩:=hr.2 (by simp);have a6:ys.length=3:=hr.1;have y:=aw 0 (by simp);rw[bx,List.drop_zero,List.take_of_length_le (by omega)] at y;obtain⟨Am,a9,bc,-,-⟩:=y.ex;subst bc;have ao:=qh (br y av);clear hr aw y av a6;go_upto_region 8 with (first
   | (go_at_call 67;(with_reducible refine K3.o.mono ?_);rintro e3 w3 ⟨⟨v3,rfl,xs,d,J⟩,ae⟩;have t:=O.o.trans (ae.mono O.o.size))
   | (at_builtin;refine wpList_append_own _ rfl _ _ 40 rfl w2.heap.size 51 i0 (.agg #[.string ⟨#[]⟩,.int .i64 0,.slice none 0 0]) 3 48 Tryz.underlying40 aq bb Q I rfl (by decide) _ _ _ rfl d ad 1 cm [.string m.nm,.int .i64 m.kind,.slice Am m.loops.length a9] rfl rfl (λ j u hj=>Below.cell_of (s.trans (t.mono s.size)) (ao.o.2 j u hj)) (by simp[Value.oneCell']) (by unfold maxLen;omega) (by omega) ae.size ?_;intro v4 w4 S ap _))
  have k:IY wb w4:=t.grown ap t.size (λ g hg=>bp O.o.size (d.lt g hg).1);obtain⟨A4,c4,rfl,h4,aM⟩:=Ri (more:=[m]) d J ap S (λ i hi=>by
   obtain rfl:i=0:=by simpa using hi
   exact (ao.o.1.keep (s.trans (k.mono s.size))).up (bp s.size k.size)) (by unfold maxLen;simp;omega)
  have V:=qh (br h4 aM);rw[Z] at V;rw[Z];clear h4 aM d J ap S t ae Z ao
 all_goals
  have aD:=s.trans (k.mono s.size);have X:=kX.o w4 k;clear a1 a2 a3 gG fZ fV gI gJ gK gQ fM;obtain⟨a1,a2,a3,gG,fZ,fV,gI,gJ,gK,gQ,fM⟩:=HS.o w4 k;obtain⟨q,I1,j1,I2,j2,I3,j3,I4,j4,I5,j5,B1,b1,B2,b2,B3,b3,Ad,cd,hA,Lr,-,ak,hc⟩:=X.1.pI hn;have ax:w4.cell? ⟨(q.add (n*23)).block,(q.add (n*23)).off+22,none⟩=some (bj Ad N[n].lo.length cd):=hc 22 _ rfl;obtain⟨lo,QW⟩:=af (N[n].lo);rw[jy hn,QW,YO] at A;rw[QW] at ax ak;have EI:=qh ak;have KN:=qh (show ∀ w',IY w4 w'->Calls Tryz.prog 69 #[bk (some ⟨U,0,none⟩)] w' λ e C=>(∃ v,e = bl v/\wC 184 2 xw C w'.heap.size v (bY N))/\IY w4 C from λ w' b =>
   (JF (kX.o w' (k.trans (b.mono k.size))).1).mono λ _ _ ⟨P,T⟩=>⟨P,b.trans (T.mono b.size)⟩)
  have MV:=qh (YP X.1);have ar:(bY N).length<=maxLen:=by
   have P:=zx (N:=N) N.length;rw[List.take_length] at P;have T:=X.1.nodes.1;unfold maxLen;omega
  have KT:=qh (show ∀ w' A5 c5,IY w4 w'->dX w' w'.heap.size A5 (bY N)->Calls Tryz.prog 178 #[.agg (BC e G D E e.ar.length F),bj A4 M.length c4,bj A5 (bY N).length c5,bj Ad lo.length cd] w' λ en C=>en = bl (.tuple #[bg bh R.1,bg bh R.2])/\IY w4 C from λ w' A5 c5 b h5=>by
   rw[A.o];have aL:=k.trans (b.mono k.size);have hE:=(kX.o w' aL).2.2.2.1.up (kX.o w' aL).2.2.2.2.1;exact (QB e M (bY N) A4 A5 c4 c5 w'.heap.size lo Ad cd _ w' hE (aB.QN (λ _ _ h=>h.up b.size) (V.o.1.keep b) b.size) h5 EI.o.1.2.2.1 ((EI.o.1.1.below b).more b.size) EI.o.1.2.1 (bq _) hp MV.o EI.o.1.2.2.2).mono λ _ _ ⟨P,T⟩=>⟨P,b.trans (T.mono b.size)⟩)
  obtain⟨NL,Cj⟩:=af (bY N);rw[Cj] at KN KT ar;have ab:=Below.refl w4.heap.size w4;have Dq:=qh (show ∀ w',IY w4 w'->w'.cell? ⟨r,0,none⟩=some (bk (some ⟨U,0,none⟩))/\w'.cell? ⟨w.heap.size,0,none⟩=some (bk (some ⟨r,0,none⟩))/\w'.cell? ⟨w.heap.size+1+1,0,none⟩=some (bg bh n)/\w'.cell? ⟨w.heap.size+1,0,none⟩=some (bg bh e.k)/\w'.cell? ⟨w.heap.size+1,1,none⟩=some (bg bh e.op)/\w'.cell? ⟨w.heap.size+1,2,none⟩=some (bi e.nm)/\w'.cell? ⟨w.heap.size+1,3,none⟩=some (bg bh e.v.k)/\w'.cell? ⟨w.heap.size+1,4,none⟩=some (bg bh e.v.n)/\w'.cell? ⟨w.heap.size+1,5,none⟩=some (bi e.v.s)/\w'.cell? ⟨w.heap.size+1,6,none⟩=some (bj G e.v.l.length D)/\w'.cell? ⟨w.heap.size+1,7,none⟩=some (bj E e.ar.length F)/\w'.cell? ⟨U,5,none⟩=some (bj (some q) N.length x.cn)/\w'.cell? ⟨(q.add (n*23)).block,(q.add (n*23)).off+22,none⟩=some (bj Ad lo.length cd)/\IY w4 w' from λ w' b=>⟨Below.cell_of b a1,Below.cell_of b a2,Below.cell_of b a3,Below.cell_of b gG,Below.cell_of b fZ,Below.cell_of b fV,Below.cell_of b gI,Below.cell_of b gJ,Below.cell_of b gK,Below.cell_of b gQ,Below.cell_of b fM,Below.cell_of b Lr,Below.cell_of b ax,b⟩);clear hA hc ak QW X Cj;go_region_held3 (λ w'=>w'.cell? ⟨r,0,none⟩=some (bk (some ⟨U,0,none⟩))/\w'.cell? ⟨w.heap.size,0,none⟩=some (bk (some ⟨r,0,none⟩))/\w'.cell? ⟨w.heap.size+1+1,0,none⟩=some (bg bh n)/\w'.cell? ⟨w.heap.size+1,0,none⟩=some (bg bh e.k)/\w'.cell? ⟨w.heap.size+1,1,none⟩=some (bg bh e.op)/\w'.cell? ⟨w.heap.size+1,2,none⟩=some (bi e.nm)/\w'.cell? ⟨w.heap.size+1,3,none⟩=some (bg bh e.v.k)/\w'.cell? ⟨w.heap.size+1,4,none⟩=some (bg bh e.v.n)/\w'.cell? ⟨w.heap.size+1,5,none⟩=some (bi e.v.s)/\w'.cell? ⟨w.heap.size+1,6,none⟩=some (bj G e.v.l.length D)/\w'.cell? ⟨w.heap.size+1,7,none⟩=some (bj E e.ar.length F)/\w'.cell? ⟨U,5,none⟩=some (bj (some q) N.length x.cn)/\w'.cell? ⟨(q.add (n*23)).block,(q.add (n*23)).off+22,none⟩=some (bj Ad lo.length cd)/\IY w4 w')
   (first | exact Dq.o _ ab | exact Dq.o _ ab.drew | exact Dq.o _ al | exact Dq.o _ al.drew | exact Dq.o _ ay)
   (first
    | (go_at_call 69;(with_reducible refine (KN.o _ ab.drew).mono ?_);rintro e5 w5 ⟨⟨v5,rfl,a0,am,aR⟩,al⟩;obtain⟨A5,a4,rfl⟩:=iU am;have be:=qh (show dX w5 w5.heap.size A5 NL from wC.vW ⟨a0,am,aR⟩ ar);clear am aR)
    | (go_at_call 178;(with_reducible refine (KT.o _ A5 a4 al be.o).mono ?_);rintro e6 w6 ⟨rfl,ay⟩))
  all_goals
   go_wp2;go_ret2;exact⟨rfl,aD.trans (ay.mono aD.size)⟩
set_option maxHeartbeats 4000000
set_option maxRecDepth 100000
theorem GL {w:World} {B0 k E B C:Nat} {x:nM} {f:bC} {N:List aj} {K:bu} (h:bF w B0 k E B C x f N K) (n:Nat) (q:n<N.length) :
  Calls Tryz.prog 169 #[bk (some ⟨k,0,none⟩),bg bh n] w λ e w'=>(∃ v,e = bl v/\(∃ A c,v = bj A (dA N K n).length c/\bU w' w'.heap.size A (dA N K n)/\((A=none/\c=0/\dA N K n = [])\/(∃ m,dA N K n = [m]))))/\IY w w':=by
 obtain⟨ad,A,c,u,-,F,-,-,-,-,-,-,-⟩:=h.nd_ q;have H:w.cell? ⟨k,5,none⟩=some (bj x.AN N.length x.cn):=h.blk.cell 5;have t:=h.cap;have J:=h.nodes.1;rw[u] at H;have z:=qh (JD h n q);have a:=qh (show dA N K n=if 0<=(n:Int)/\(ny N n).it.k=4 then [lh K (ny N n)] else [] from rfl);obtain⟨d,p⟩:=af (N[n]);rw[jy q,p] at a;rw[p] at z F;clear h u p;by_cases h4:d.it.k=4
 .have a:=qh (a.o.trans (if_pos ⟨by omega,h4⟩));rw[a.o];obtain⟨D,r⟩:=jk h4;clear h4;go_enter Tryz.func169,Tryz.ntmps169;go_wp2_with (go_at_call 110;(with_reducible refine z.o.mono ?_);rintro I j ⟨⟨G,rfl,l,g,rfl,o⟩,b⟩);go_ret;have y:=az j (.cells #[bi (lh K d).nm,bg bh (lh K d).kind,bj l (lh K d).loops.length g] 51 (0,0));refine⟨⟨_,rfl,some ⟨j.heap.size,0,none⟩,1,rfl,⟨show 1<=maxLen by unfold maxLen;decide,[bi (lh K d).nm,bg bh (lh K d).kind,bj l (lh K d).loops.length g],⟨rfl,λ _=>⟨_,rfl,by simp,nI (ah.new j _ _)⟩⟩,λ i s=>?_⟩,.inr ⟨_,rfl⟩⟩,b.trans (y.mono b.size)⟩;obtain rfl:i=0:=by simpa using s
  exact (gZ.later ⟨l,g,rfl,o⟩ y).at_
 .have a:=qh (a.o.trans (if_neg (λ h=>h4 h.2)));rw[a.o];obtain⟨D,r⟩:=fU h4;clear h4;go_enter Tryz.func169,Tryz.ntmps169;go_wp2;go_ret;exact⟨⟨_,rfl,none,0,rfl,⟨by decide,[],Reads.none_,λ i s=>by cases s⟩,bo ⟨rfl,rfl,by first | rfl | trivial⟩⟩,Below.refl _ _⟩
theorem GM {F:Ex->Int × Int} {k:Int} {l:List Ex} {i:Nat} (h:i<l.length):dM F k (l.drop i)=if (F l[i]).2≠0 then (F l[i]).2 else if (F l[i]).1≠k then 8 else dM F k (l.drop (i+1)):=by
 rw[bE h,dM]
theorem JQ {w:World} {B0 gb m1 m2 m3:Nat} {x:nM} {f:bC} {N:List aj} {K:bu} (h:bF w B0 gb m1 m2 m3 x f N K) {E:Nat} (D:w.cell? ⟨E,0,none⟩=some (bk (some ⟨gb,0,none⟩))) (V:E<w.heap.size) (hN:iQ N) {more:List aG} {AM A:Option Addr} {cm c B n:Nat} {l:List Ex} (y:bU w w.heap.size AM more) (F:(AM=none/\cm=0/\more = [])\/(∃ m,more = [m])) (Y:aB aZ 8 w B A l) (M:B<=w.heap.size) (hn:n<N.length)
  (hp:∀ e∈l,e.parts<=1000000) (p:Tab w) (z:Mx w) :
  IE 117 #[bk (some ⟨E,0,none⟩),bj A l.length c,bg bh n,bj AM more.length cm] w (bg bh (dM (bT N K n more) 7 l)):=by
 have aa:=Y.1;unfold maxLen at aa;have HL:=qh Y;have KF:=qh (show ∀ w' e cs,IY w w'->aZ w' B e cs->e.parts<=1000000->Calls Tryz.prog 120 #[bk (some ⟨E,0,none⟩),.agg cs.toArray,bg bh n,bj AM more.length cm] w' λ O X=>O = bl (.tuple #[bg bh (bT N K n more e).1,bg bh (bT N K n more e).2])/\IY w' X from λ w' e cs o hx W =>
  yw (h.keep o) (Below.cell_of o D) (bB V o.size) hN (aB.QN (λ _ _ h=>h.up o.size) (y.keep o) o.size) F hx (bp M o.size) hn W (aA p o) (z.below o))
 have HP:=qh hp;obtain⟨Q,C⟩:=af (bT N K n more);rw[C] at KF ⊢;obtain⟨R,Z⟩:=af (dM Q 7 l);have HR:=qh Z.symm;rw[Z];clear h D y Y hp p z C Z F;go_enter Tryz.func117,Tryz.ntmps117;go_wp2;go_loopw [15] (λ i wr=>∃ k:Nat,i = bg bh k/\k<=l.length/\Hid (R=dM Q 7 (l.drop k))/\IY w wr) (λ i _=>l.length+1 - (intOf i).toNat)
 case atStart=>exact⟨0,rfl,Nat.zero_le _,HR,Below.refl _ _⟩
 case round =>
  obtain⟨k,rfl,hk,q,u⟩:=hrel;have hs:=u.size;by_cases hlt:k<l.length
  .have q:=qh (q.o.trans (GM hlt));obtain⟨ad,ci,rfl,P,s,b⟩:=aB.at_ (aB.keep (λ _ _ h=>h.keep (u.mono M)) HL.o (u.mono M)) hlt;obtain⟨a,U⟩:=af (l[k]);have nV:=qh (HP.o a (U▸bv hlt));rw[U] at s q;have nP:=qh s;have aW:=qh hlt;obtain⟨-,-,-,-,-,-,-⟩:=s;rename_i I J L H ab;obtain⟨kC,kT,nZ,tV,tX,tY,tZ,wJ⟩:=Cm b;obtain⟨W3,j⟩:=aC (wr.alloc (.cells (BC a I J L a.ar.length H) 67 (0,0)));have G:IY wr W3:=j▸az wr _;have B3:ah W3 wr.heap.size 67 (BC a I J L a.ar.length H):=j▸ah.new wr _ _;have d:=u.trans (G.mono hs);clear b U P;go_upto_region 4 with (fail);rw[<- j];clear j kC kT nZ tV tX tY tZ wJ;obtain⟨Ir,Fz,Iu,Jm,Jn,Jo,Jp,Jq⟩:=ah.c8 B3;have KA:=qh (show Calls Tryz.prog 120 #[bk (some ⟨E,0,none⟩),.agg (BC a I J L a.ar.length H),bg bh n,bj AM more.length cm] W3 _ from KF.o W3 a _ d (nP.o.keep (G.mono (bp M hs))) nV.o);obtain⟨r,hr⟩:=af (Q a);rw[hr] at KA q;clear hr;by_cases h0:r.2=0
   case' neg =>
    have t:=qh (q.o.trans (if_pos h0));obtain⟨g0,S⟩:=fU h0;clear h0
   case' pos =>
    have v:=qh (q.o.trans (if_neg (λ h=>h h0)));obtain⟨g0,S⟩:=jk h0;clear h0;by_cases h7:r.1=7
    case' neg =>
     have t:=qh (v.o.trans (if_pos h7));obtain⟨g7,T⟩:=fU h7;clear h7
    case' pos =>
     have t:=qh (v.o.trans (if_neg (λ h=>h h7)));obtain⟨g7,T⟩:=jk h7;clear h7
   all_goals
    go_wp2_with (go_at_call 120;(with_reducible refine KA.o.mono ?_);rintro e1 w4 ⟨rfl,g⟩;have g:=d.trans (g.mono d.size);clear Ir Fz Iu Jm Jn Jo Jp Jq)
    first
     | (go_ret
        exact⟨ag t.o.symm,g⟩)
     | (go_roundw
        case rel=>exact⟨k+1,by go_num,aW.o,t,g⟩
        case measure =>
         have:=aW.o;simp[intOf];omega)
  .have e:k=l.length:=by omega
   subst e;have t:=qh (show R=0 from q.o.trans (by rw[List.drop_length];rfl));go_wp2;go_ret;exact⟨ag t.o.symm,u⟩
end Go.Proofs.YtcnagconagpkcaaGreatDoor
namespace Go.Proofs.YtcnagconagpkcaaGreatDoor
open Go.RowKit
attribute [local go_sem ↓] Go.wp_at_zero Go.wp_at_succ
set_option maxHeartbeats 4000000
set_option maxRecDepth 100000
theorem byT {c d:UInt8} {n:Int} (a:(d.toNat:Int)=n) (h:c=d):(c.toNat:Int)=n:=by rw[h];exact a
theorem byF {c d:UInt8} {n:Int} (a:(d.toNat:Int)=n) (h:¬ c=d):¬ (c.toNat:Int)=n:=λ e=>h (UInt8.toNat_inj.1 (by omega))
def Vu (s:ByteArray) (i:Nat):Int:=match qC (s.data.toList.drop i) false 0 with
 | some k=>(i+k:Nat)
 | none=>-1
theorem YQ {s:ByteArray} {j:Nat} (h:j<s.size) (q:Bool) (m:Nat):qC (s.data.toList.drop j) q m=if s[j]=39 then qC (s.data.toList.drop (j+1)) (!q) (m+1) else if q=true then qC (s.data.toList.drop (j+1)) q (m+1) else if s[j]=125 then some m else if s[j]=123 then none else qC (s.data.toList.drop (j+1)) q (m+1):=by
 have a:j<s.data.toList.length:=by simpa using h
 rw[bE a,qC];rfl
theorem end_none {s:ByteArray} (q:Bool) (m:Nat):qC (s.data.toList.drop s.size) q m=none:=by
 rw[bA (by simp),qC]
theorem OY (s:ByteArray) (i:Nat) (w:World) (D:s.size<=maxLen) (E:i<=s.size) :
  KG 208 #[bi s,bg bh i] w (bg bh (Vu s i)):=by
 unfold maxLen at D;obtain⟨R,y⟩:=af (Vu s i);have x:=qh (show ∀ r,qC (s.data.toList.drop i) false 0=r->R=(match r with | some k=>((i+k:Nat):Int) | none=>-1) from λ r h=>by rw[<- y,Vu,h]);rw[y];clear y;go_enter Tryz.func208,Tryz.ntmps208;go_wp2;go_loopw [1,5] (λ a q wr=>∃ (j:Nat) (b:Bool),a = bg bh j/\q = .bool b/\i<=j/\j<=s.size/\wr=w/\Hid (qC (s.data.toList.drop i) false 0=qC (s.data.toList.drop j) b (j - i))) (λ a _ _=>s.size+1 - (intOf a).toNat)
 case atStart=>exact⟨i,false,rfl,rfl,bq _,E,rfl,qh (by rw[Nat.sub_self])⟩
 case round =>
  obtain⟨j,b,rfl,rfl,l,F,rfl,f⟩:=hrel;by_cases o:j<s.size
  .have f:=qh (f.o.trans (YQ o b (j - i)));obtain⟨c,B⟩:=af (s[j]);rw[B] at f;have g:=qh (br o l);rw[<- Nat.sub_add_comm l] at f;by_cases qI:c=39
   .obtain⟨C,t⟩:=jk (byT (n:=39) rfl qI);have d:=qh (f.o.trans (if_pos qI));clear qI;go_wp2;go_roundw
    case rel=>exact⟨j+1,_,by go_num,rfl,by have:=g.o;omega,g.o.1,by first | rfl | trivial,d⟩
    case measure =>
     have:=g.o
     first | (simp[intOf];done) | (simp[intOf];omega)
   have f:=qh (f.o.trans (if_neg qI));obtain⟨C,t⟩:=fU (byF (n:=39) rfl qI);clear qI;cases b
   case true =>
    have d:=qh (f.o.trans (if_pos rfl));go_wp2;go_roundw
    case rel=>exact⟨j+1,_,by go_num,rfl,by have:=g.o;omega,g.o.1,by first | rfl | trivial,d⟩
    case measure =>
     have:=g.o
     first | (simp[intOf];done) | (simp[intOf];omega)
   have m:=qh (f.o.trans (if_neg (by decide)));by_cases Bg:c=125
   .obtain⟨A,v⟩:=jk (byT (n:=125) rfl Bg);have d:=qh (x.o _ (m.o.trans (if_pos Bg)));clear Bg;go_wp2;go_ret;exact⟨ag (by rw[d.o];have:=g.o;simp;omega),by first | rfl | trivial⟩
   have p:=qh (m.o.trans (if_neg Bg));obtain⟨A,v⟩:=fU (byF (n:=125) rfl Bg);clear Bg;by_cases iG:c=123
   .obtain⟨z,u⟩:=jk (byT (n:=123) rfl iG);have d:=qh (x.o _ (p.o.trans (if_pos iG)));clear iG;go_wp2;go_ret;exact⟨ag (by rw[d.o]),by first | rfl | trivial⟩
   have d:=qh (p.o.trans (if_neg iG));obtain⟨z,u⟩:=fU (byF (n:=123) rfl iG);clear iG;go_wp2;go_roundw
   case rel=>exact⟨j+1,_,by go_num,rfl,by have:=g.o;omega,g.o.1,by first | rfl | trivial,d⟩
   case measure =>
    have:=g.o
    first | (simp[intOf];done) | (simp[intOf];omega)
  .have e:j=s.size:=by omega
   subst e;have d:=qh (x.o _ (f.o.trans (end_none _ _)));go_wp2;go_ret;exact⟨ag (by rw[d.o]),by first | rfl | trivial⟩
end Go.Proofs.YtcnagconagpkcaaGreatDoor
namespace Go.Proofs.YtcnagconagpkcaaGreatDoor
def kP (nt:NT) (l:List Tok):Nat:=12*l.length+iC nt
structure Agree (m:Nat) (p q:NT->List Ex->List Tok->yD):Prop where
 eq:∀ nt acc l,kP nt l<=m->p nt acc l=q nt acc l
 len:∀ nt acc l es l',p nt acc l = .ok es l'->l'.length<=l.length
theorem bind_congr {r b:yD} {k k':List Ex->List Tok->yD} {m:Nat} (e:r=b) (c:∀ a l,r = .ok a l->l.length<=m) (d:∀ a l,l.length<=m->k a l=k' a l):r.bind k=b.bind k':=by
 subst e;cases r with
 | err p=>rfl
 | ok a l=>exact d a l (c a l rfl)
theorem GN {n m:Nat} {w:List UInt8} {l:List Tok} {k k':List Tok->yD} (a:l.length<=m) (b:∀ l,l.length+1<=m->k l=k' l):dR n w l k=dR n w l k':=by
 unfold dR;split
 .rename_i h;cases l with
  | nil=>cases h
  | cons t r=>exact b _ (by simpa using a)
 .rfl
theorem EM {l:List Tok} {w:List UInt8} (h:ni l w=true):l.tail.length+1=l.length:=by
 cases l with
 | nil=>cases h
 | cons t r=>rfl
theorem GR {a b:Int} {l:List Tok} (h:iy a b l≠0):l.tail.length+1=l.length:=by
 cases l with
 | cons t r=>rfl
 | nil =>
  refine absurd ?_ h;unfold iy;rw[if_neg (by simp[ni])];rw[List.find?_eq_none.2 (λ o _=>by simp[ni])]
theorem GU {n m:Nat} {p q:NT->List Ex->List Tok->yD} (h:Agree m p q) (f:NT) (c:List Ex) (l:List Tok) (j:kP f l<=m+1):iP n p f c l=iP n q f c l:=by
 have H:=h.eq;have L:=h.len;unfold kP at H j;cases f <;> dsimp only[iP,iC] at j ⊢
 case or=>exact bind_congr (m:=l.length) (H _ _ _ (by simp only[iC];omega)) (λ _ _ e=>L _ _ _ _ _ e) (λ _ _ a=>H _ _ _ (by simp only[iC];omega))
 case UU =>
  split
  .rename_i b;have:=EM b;exact bind_congr (m:=l.tail.length) (H _ _ _ (by simp only[iC];omega)) (λ _ _ e=>L _ _ _ _ _ e) (λ _ _ a=>H _ _ _ (by simp only[iC];omega))
  .rfl
 case and=>exact bind_congr (m:=l.length) (H _ _ _ (by simp only[iC];omega)) (λ _ _ e=>L _ _ _ _ _ e) (λ _ _ a=>H _ _ _ (by simp only[iC];omega))
 case CV =>
  split
  .rename_i b;have:=EM b;exact bind_congr (m:=l.tail.length) (H _ _ _ (by simp only[iC];omega)) (λ _ _ e=>L _ _ _ _ _ e) (λ _ _ a=>H _ _ _ (by simp only[iC];omega))
  .rfl
 case not =>
  split
  .rename_i b;have:=EM b;exact bind_congr (m:=l.tail.length) (H _ _ _ (by simp only[iC];omega)) (λ _ _ e=>L _ _ _ _ _ e) (λ _ _ a=>rfl)
  .refine bind_congr (m:=l.length) (H _ _ _ (by simp only[iC];omega)) (λ _ _ e=>L _ _ _ _ _ e) (λ _ g a=>?_);split
   .rfl
   .rename_i d;have:=GR d;exact bind_congr (m:=g.tail.length) (H _ _ _ (by simp only[iC];omega)) (λ _ _ e=>L _ _ _ _ _ e) (λ _ _ a=>rfl)
 case sum=>exact bind_congr (m:=l.length) (H _ _ _ (by simp only[iC];omega)) (λ _ _ e=>L _ _ _ _ _ e) (λ _ _ a=>H _ _ _ (by simp only[iC];omega))
 case Eo =>
  split
  .rfl
  .rename_i d;have:=GR d;exact bind_congr (m:=l.tail.length) (H _ _ _ (by simp only[iC];omega)) (λ _ _ e=>L _ _ _ _ _ e) (λ _ _ a=>H _ _ _ (by simp only[iC];omega))
 case product=>exact bind_congr (m:=l.length) (H _ _ _ (by simp only[iC];omega)) (λ _ _ e=>L _ _ _ _ _ e) (λ _ _ a=>H _ _ _ (by simp only[iC];omega))
 case jT =>
  split
  .rfl
  .rename_i d;have:=GR d;exact bind_congr (m:=l.tail.length) (H _ _ _ (by simp only[iC];omega)) (λ _ _ e=>L _ _ _ _ _ e) (λ _ _ a=>H _ _ _ (by simp only[iC];omega))
 case minus =>
  split
  .rename_i b;have:=EM b;split
   .rfl
   .exact bind_congr (m:=l.tail.length) (H _ _ _ (by simp only[iC];omega)) (λ _ _ e=>L _ _ _ _ _ e) (λ _ _ a=>rfl)
  .exact H _ _ _ (by simp only[iC];omega)
 case cO =>
  split
  .rfl
  .rename_i t r;have k:r.tail.length<=r.length:=by rw[bK];omega
   have i:r.tail.tail.length<=r.length:=by rw[bK];omega
   simp only[List.length_cons] at j;split
   .rfl
   split
   .rfl
   split
   .exact bind_congr (m:=r.length) (H _ _ _ (by simp only[iC];omega)) (λ _ _ e=>L _ _ _ _ _ e) (λ _ _ a=>rfl)
   split
   .rfl
   split
   .rfl
   split
   .split
    .rfl
    .exact GN (m:=r.length) i (λ g a=>bind_congr (m:=r.length) (H _ _ _ (by simp only[iC];omega)) (λ _ _ e=>bp (L _ _ _ _ _ e) (by omega)) (λ _ _ _=>rfl))
   split
   .exact bind_congr (m:=r.length) (H _ _ _ (by simp only[iC];omega)) (λ _ _ e=>bp (L _ _ _ _ _ e) (by omega)) (λ _ _ a=>rfl)
   .rfl
 case args=>exact bind_congr (m:=l.length) (H _ _ _ (by simp only[iC];omega)) (λ _ _ e=>L _ _ _ _ _ e) (λ _ _ a=>H _ _ _ (by simp only[iC];omega))
 case qA =>
  split
  .exact GN (m:=l.length) (bq _) (λ g a=>bind_congr (m:=g.length) (H _ _ _ (by simp only[iC];omega)) (λ _ _ e=>L _ _ _ _ _ e) (λ _ _ a=>H _ _ _ (by simp only[iC];omega)))
  .rfl
theorem YR (n:Nat):∀ (f c:Nat) (b:NT) (a:List Ex) (l:List Tok),kP b l<=f->kP b l<=c->P n f b a l=P n c b a l
 | 0,_,b,_,_,h,_=>by unfold kP at h;cases b <;> simp[iC] at h
 | _+1,0,b,_,_,_,h=>by unfold kP at h;cases b <;> simp[iC] at h
 | f+1,c+1,b,a,l,h,h'=>by
  rw[P,P];refine GU (m:=min f c) ⟨λ b a l d=>YR n f c b a l (bp d (Nat.min_le_left _ _)) (bp d (Nat.min_le_right _ _)),λ b a l g i e=>Tq n f b a l g i _ e (bq _)⟩ b a l (by omega)
noncomputable def Pz (n:Nat) (nt:NT) (acc:List Ex) (l:List Tok):yD:=P n (kP nt l) nt acc l
theorem xH {n:Nat} {c:NT} {a:List Ex} {l:List Tok} {d:List Ex} {b:List Tok} (h:Pz n c a l = .ok d b):b.length<=l.length:=Tq n _ c a l d b _ h (bq _)
theorem iR (n:Nat) (b:NT) (a:List Ex) (l:List Tok):Pz n b a l=iP n (Pz n) b a l:=by
 have c:∃ m,kP b l=m+1:=by
  unfold kP;cases b <;> exact⟨_,rfl⟩
 obtain⟨m,g⟩:=c;unfold Pz;rw[g,P];exact GU (m:=m) ⟨λ b a l h=>YR n m _ b a l h (bq _),λ b a l d f e=>Tq n m b a l d f _ e (bq _)⟩ b a l (by omega)
theorem Vw (s:List UInt8):P s.length (12*(wordsOf s 0).length+7) .or [] (wordsOf s 0)=Pz s.length .or [] (wordsOf s 0):=rfl
end Go.Proofs.YtcnagconagpkcaaGreatDoor
namespace Go.Proofs.YtcnagconagpkcaaGreatDoor
open Vtx Go.Lib Dig
theorem JR {c:UInt8} (h:c≠32):bM c=false:=by unfold bM;exact decide_eq_false h
def akR (s:List UInt8) (i:Nat):Prop:=i=0\/fC (s.getD (i - 1) 0)=false
def Stop (rest:List UInt8):Prop:=∀ c r,rest=c :: r->c=32\/c=41\/c=44
theorem YS {c:UInt8} (h:nN c=true):fC c=true:=by unfold fC;rw[h];rfl
theorem Vx {b:UInt8} (h:dQ b):48<=b.toNat/\b.toNat<=57:=by
 unfold dQ at h;omega
theorem acf {b:UInt8} (h:dQ b):gp b=true:=by
 have:=Vx h;unfold gp;simp;omega
theorem acg {c:UInt8} {a:List UInt8} (e:nN c=false) (g:gp c=false) (b:c≠64/\c≠35/\c≠39/\c≠123) (f:∀ d r,a=d :: r->QL c d=false):dG ([c] ++ a) = [c].length:=by
 rw[List.singleton_append,dG,if_neg (by rw[e];decide),if_neg (by rw[g];decide),if_neg b.1,if_neg b.2.1,if_neg b.2.2.1,if_neg b.2.2.2];cases a with
 | nil=>rfl
 | cons d r=>unfold qY;simp[f d r rfl]
section
variable {s:List UInt8}
def HW (s:List UInt8) (w f:List UInt8):Prop:=∀ i rest,s.drop i=w ++ rest->Stop rest->akR s i->∃ r,wordsOf s i=⟨i,f,false⟩ :: r
theorem YT {a:List Ex} {l:List Tok} (h:ni l X7=false):Pz s.length .CV a l = .ok (DX 2 a) l:=by rw[iR];exact if_neg (by rw[h];decide)
theorem ach {a:List Ex} {l:List Tok} (h:ni l orW=false):Pz s.length .UU a l = .ok (DX 3 a) l:=by rw[iR];exact if_neg (by rw[h];decide)
theorem ae9 {c:UInt8} (h:c≠60/\c≠62) (a:List UInt8):∀ d r,a=d :: r->QL c d=false:=λ d r _=>by
 unfold QL;simp[h.1,h.2]
end
theorem afa {x v:Val} (h:(⟨x.k,x.n,x.s.data.toList,x.l⟩:Q)=⟨v.k,v.n,v.s.data.toList,v.l⟩):x=v:=by
 obtain⟨k,n,s,l⟩:=x;obtain⟨d,b,s',c⟩:=v;injection h with h1 h2 h3 h4;simp only at h1 h2 h3 h4;have a:s=s':=ByteArray.ext (Array.toList_inj.1 h3);subst h1 h2 a h4;rfl
theorem Rj {v:Val} (h:bG v=0):vP (showT v.k v.n v.s.data.toList v.l)=some v:=by
 have a:∃ x:Val,bG x=0/\showT x.k x.n x.s.data.toList x.l=showT v.k v.n v.s.data.toList v.l:=⟨v,h,rfl⟩;unfold vP;rw[dif_pos a];have c:=a.choose_spec;have b:=uN (zB c.1).1;rw[c.2,uN (zB h).1] at b;rw[afa (Option.some.inj b).symm]
theorem nd {b:UInt8} (h:gp b=false):¬ dQ b:=λ e=>by rw[acf e] at h;cases h
section
variable {s:List UInt8}
end
def lL (a:Option UInt8) (l:List UInt8):Bool:=match a,l with
 | some a,d :: _=>(gp a || decide (a=35)) && gp d
 | _,_=>false
theorem aci (a l:List UInt8):Tn a l=lL a.getLast? l:=by
 unfold Tn lL;rfl
theorem GX (l:List UInt8):(l.dropWhile bM).length<=l.length:=(List.dropWhile_sublist _).length_le
def BQ (a:Option UInt8):List UInt8->List UInt8
 | []=>[]
 | c :: r=>if c≠32 then c :: BQ (some c) r else if lL a (r.dropWhile bM) then 32 :: BQ (some 32) (r.dropWhile bM) else BQ a (r.dropWhile bM)
termination_by l=>l.length
decreasing_by
 all_goals have:=GX r
 all_goals simp
 all_goals omega
theorem YU (a:Option UInt8):BQ a [] = []:=by rw[BQ]
theorem TL (a:Option UInt8) {c:UInt8} (r:List UInt8) (h:c≠32):BQ a (c :: r)=c :: BQ (some c) r:=by rw[BQ,if_pos h]
theorem OZ (a:Option UInt8) (r:List UInt8):BQ a (32 :: r)=if lL a (r.dropWhile bM) then 32 :: BQ (some 32) (r.dropWhile bM) else BQ a (r.dropWhile bM):=by rw[BQ,if_neg (by simp)]
theorem GY:∀ (f:Nat) (a l:List UInt8),l.length<f->rE f a l=a ++ BQ a.getLast? l
 | 0,_,_,h=>by omega
 | f+1,a,[],_=>by rw[rE,YU,bD]
 | f+1,a,c :: r,h=>by
  have b:r.length<f:=by simpa using h
  have d:=GX r;rw[rE];by_cases hc:c=32
  .subst hc;rw[if_neg (by simp),GY f _ _ (by omega),aci,OZ];by_cases hk:lL a.getLast? (r.dropWhile bM)=true
   .rw[if_pos hk,if_pos hk];simp
   .rw[if_neg hk,if_neg hk]
  .rw[if_pos hc,GY f _ _ b,TL _ _ hc];simp
theorem YV (s:List UInt8):lX s=BQ none s:=by
 unfold lX;rw[GY _ _ _ (Nat.lt_succ_self _)];rfl
def tp (p:List UInt8):List UInt8:=BQ (some 44) p
theorem zH {x:List UInt8} (h:∀ v:Val,bG v=0->showT v.k v.n v.s.data.toList v.l≠x):vP x=none:=by
 unfold vP;rw[dif_neg (λ ⟨v,a,b⟩=>h v a b)]
end Go.Proofs.YtcnagconagpkcaaGreatDoor
