/- Lemmas. -/
import Derived.Test.YtcnagconagpkcaaGreatDoorZ22
open Go.Value renaming int->bL, string->bO, slice->bR, pointer->bS, bool->bX, oneCell'->ck
open Go.IntKind renaming i64->bN
open Go.Ending renaming returned->b0
open Nat renaming le_trans->b4, zero_le->ca, lt_of_lt_of_le->cj, le_refl->co
open And renaming intro->b9
open List renaming drop_length->cb, take_succ_eq_append_getElem->cc, getElem_mem->ce, drop_eq_getElem_cons->cf, all_eq_true->cp, length_take->cq, any_append->cr, any_eq_true->ct, eq_nil_of_length_eq_zero->cu
namespace Go.Proofs.YtcnagconagpkcaaGreatDoor
open Go.RowKit
attribute [local go_sem ↓] Go.wp_at_zero Go.wp_at_succ
attribute [local go_sem ↓] ld_item st_item ld_node st_node ld_ans st_ans ld_part st_part ld_rule st_rule ld_form st_form
set_option maxHeartbeats 4000000
set_option maxRecDepth 100000
def MG (c:UInt8):Bool:=aN c.toNat 32 126
theorem Wh {s:ByteArray} {k:Nat} (h:k<s.size) (b:(s.data.toList.take k).any MG=false):(s.data.toList.take (k+1)).any MG=MG s[k]:=by
 have a:k<s.data.toList.length:=h;rw[cc a,cr,b];simp;rfl
theorem ZX {s:ByteArray} {k:Nat} (h:k<s.size) (b:MG s[k]=true):s.data.toList.any MG=true:=by
 have a:k<s.data.toList.length:=h;exact ct.2 ⟨s.data.toList[k],ce a,b⟩
noncomputable def acN (F:Ex->Int × Int) (pipes:Bool) (s:ByteArray) (rest:Int):Int:=if 300<s.size then 2 else if s.data.toList.any MG=true then 1 else
  match xh s with
  | none=>10
  | some es=>if rJ F pipes es≠0 then rJ F pipes es else rest
theorem ZY {F:Ex->Int × Int} {a:Bool} {l:List ByteArray} {k:Nat} (h:k<l.length):Og F a (l.drop k)=acN F a l[k] (Og F a (l.drop (k+1))):=by
 rw[cf h,Og];unfold acN;cases xh l[k] <;> rfl
theorem ZZ {w:World} {ad:Addr} {cs:List Value} (a:cs.length=10) (b:∀ j u,cs[j]?=some u->w.cell? (ad.add j)=some u):(Df 266 (bS (some ad))).run Tryz.prog w = .ok (.agg cs.toArray) w:=
 yh Tryz.underlying266 rfl (by rw[a];kernel_rfl) b
theorem Z4 {w:World} {cs:List Value} (a:cs.length=10) (b:∀ v∈cs,v.oneCell'=true):(JB 266 (bS (some ⟨w.heap.size,0,none⟩)) (.agg cs.toArray)).run Tryz.prog (w.alloc (.cells #[bO ⟨#[]⟩,bX false,bL bN 0,bL bN 0,bO ⟨#[]⟩,bL bN 0,bL bN 0,bO ⟨#[]⟩,bR none 0 0,bR none 0 0] 266 (0,0))) = .ok () (w.alloc (.cells cs.toArray 266 (0,0))):=
 yj (by rw[show cs.toArray.size=10 from a];kernel_rfl) (show 10=cs.toArray.size from a.symm) (by rw[<- Array.all_toList];exact cp.2 b)
theorem zQ {w:World} {B0 Q m1 m2 m3:Nat} {x:nM} {f:bC} {N:List aj} {K:bu} (h:bF w B0 Q m1 m2 m3 x f N K) {S:Nat} (L:w.cell? ⟨S,0,none⟩=some (bS (some ⟨Q,0,none⟩))) (a0:S<w.heap.size) (hN:iQ N) {p:List ByteArray} {A:Option Addr} {c B:Nat} {n:Int} {a:Bool} {F:Ex->Int × Int} (hp:qG w B A c p) (hB:B<=w.heap.size) (hF:a=true->∃ m:Nat,n=m/\m<N.length/\F=bT N K m (dA N K m)) (T:Tab w) (aL:Mx w) :
  IE 112 #[bS (some ⟨S,0,none⟩),bR A p.length c,bL bN n,bX a] w (bL bN (rM F f.bD.length a p)):=by
 have bn:=hp.2.2.1;have bA:=h.form.la.2.2.1;unfold maxLen at bn bA;have g2:w.cell? ⟨Q,2,none⟩=some (bR x.AL f.bD.length x.cl):=h.blk.cell 2;have kX:=qh (b9 h (b9 L (b9 a0 hN)));have a8:=qh hp;have bs:=qh hF;have pK:=qh (λ w' (C:IY w w')=>b9 (aA T C) (aL.below C));obtain⟨R,hR⟩:=af (rM F f.bD.length a p);have HR:=qh (hR.symm.trans (rM.eq_def F f.bD.length a p));rw[hR];clear h hp hF T aL hR;by_cases h0:p.length=0
 .obtain rfl:p = []:=List.length_eq_zero_iff.1 h0;have o:=qh (show R=0 from HR.o.trans (if_neg (λ h=>absurd h.1 (by decide))));clear h0;go_enter Tryz.func112,Tryz.ntmps112;go_wp2;go_loopw [37] (λ i wr=>i = bL bN 0/\wr=w) (λ _ _=>1)
  case atStart=>exact⟨rfl,rfl⟩
  case round =>
   obtain⟨rfl,rfl⟩:=hrel;go_wp2;go_ret;exact⟨ag o.o.symm,Below.refl _ _⟩
 have bl:0<(p.length:Int):=by omega
 by_cases hne:p.length≠f.bD.length
 .have o:=qh (HR.o.trans (if_pos ⟨by omega,hne⟩));have bf:((p.length:Int) != (f.bD.length:Int))=true:=bne_iff_ne.2 (by omega);clear hne h0;go_enter Tryz.func112,Tryz.ntmps112;go_wp2;go_ret;exact⟨ag o.o.symm,Below.refl _ _⟩
 have br:=qh (HR.o.trans (if_neg (λ h=>hne h.2)));have bf:((p.length:Int) != (f.bD.length:Int))=false:=bne_eq_false_iff_eq.2 (by omega);clear hne h0;go_enter Tryz.func112,Tryz.ntmps112;go_upto_region 3 with (fail)
 all_goals
  clear HR bl g2 L;go_wp2;go_loopw [37] (λ i wr=>∃ k:Nat,i = bL bN k/\k<=p.length/\Hid (R=Og F a (p.drop k))/\IY w wr) (λ i _=>p.length+1 - (intOf i).toNat)
  case atStart=>exact⟨0,rfl,ca _,br,Below.refl _ _⟩
  case round =>
   obtain⟨k,rfl,hk,V,C⟩:=hrel;have hs:=C.size;by_cases hlt:k<p.length
   .obtain⟨ab,ao,rfl,bm,aR⟩:=Reads.plain (a8.o.1.below (C.mono hB)) (by omega);have qx:wr.cell? ⟨ab,ao+k,none⟩=some (bO p[k]):=aR k _ (by simp[jq,hlt]);have a9:=a8.o.2.2.2 p[k] (ce hlt);have V:=qh (V.o.trans (ZY hlt));obtain⟨s,ae⟩:=af (p[k]);obtain⟨rr,am⟩:=af (Og F a (p.drop (k+1)));have bc:=qh am;rw[ae,am] at V;rw[ae] at qx a9;have aW:=qh hlt;have bE:ab<wr.heap.size:=cj bm (b4 hB hs);clear ae am aR;by_cases h3:300<s.size
    .have o:=qh (show R=2 from V.o.trans (by unfold acN;rw[if_pos h3]));have bo:(300:Int)<(s.size:Nat):=by omega
     go_wp2;go_ret;exact⟨ag o.o.symm,C⟩
    have Y:=qh (show R=_ from V.o.trans (by unfold acN;rw[if_neg h3]));have bo:¬ (300:Int)<(s.size:Nat):=by omega
    clear V;go_wp2;go_loopw [11] (λ i w2=>∃ m:Nat,i = bL bN m/\m<=s.size/\w2=wr/\Hid ((s.data.toList.take m).any MG=false)) (λ i _=>s.size+1 - (intOf i).toNat)
    case atStart=>exact⟨0,rfl,ca _,rfl,qh rfl⟩
    case round =>
     obtain⟨m,rfl,hm,rfl,HC⟩:=hrel;by_cases hml:m<s.size
     .obtain⟨ch,bp⟩:=af (s[m]);have ar:=qh (Wh hml HC.o);have al:=qh (ZX hml);rw[bp] at ar al;have a1:=qh hml;obtain⟨x1,aa⟩:=af (MG ch);have K1:=qh (show ∀ w,Calls Tryz.prog 30 #[bL bN (ch.toNat:Nat),bL bN 32,bL bN 126] w λ e w'=>e = b0 (bX x1)/\w=w' from λ w=>aa▸kM (ch.toNat:Nat) 32 126 w);rw[aa] at ar al;clear aa;have bB:wrap64 ((ch.toNat:Nat):Int)=((ch.toNat:Nat):Int):=IntWalk.wrap64_in _ (by have:=ch.toNat_lt;omega);cases x1
      .go_wp2_with (go_at_call 30;(with_reducible refine (K1.o _).mono ?_);rintro e1 w1 ⟨rfl,rfl⟩);go_roundw
       case rel=>exact⟨m+1,by go_num,a1.o,by first | rfl | trivial,ar⟩
       case measure =>
        have:=a1.o
        first | (simp[intOf];done) | (simp[intOf];omega)
      .have o:=qh (show R=1 from Y.o.trans (if_pos (al.o rfl)));go_wp2_with (go_at_call 30;(with_reducible refine (K1.o _).mono ?_);rintro e1 w1 ⟨rfl,rfl⟩);go_ret;exact⟨ag o.o.symm,C⟩
     .have e:m=s.size:=by omega
      subst e;have HA:=qh (show s.data.toList.any MG=false by have h:=HC.o;rwa [List.take_of_length_le (by simp)] at h);have O:=qh (show R=_ from Y.o.trans (if_neg (by rw[HA.o];decide)));clear Y;obtain⟨PF,an⟩:=af (xh s);have KP:=qh (an▸We s _ (by omega) (pK.o _ C).1 (pK.o _ C).2);rw[an] at O;clear an;have aE:=C.size;cases PF with
      | none =>
       have o:=qh (show R=10 from O.o);go_wp2_with (go_at_call 168;(with_reducible refine KP.o.mono ?_);rintro e5 w5 ⟨rfl,d⟩);go_ret;exact⟨ag o.o.symm,C.trans (d.mono aE)⟩
      | some es =>
       have ax:=qh (show R=if rJ F a es≠0 then rJ F a es else rr from O.o);go_wp2_with (go_at_call 168;(with_reducible refine KP.o.mono ?_);rintro e5 w5 ⟨⟨A9,l,c9,rfl,ac,a4,ay⟩,d⟩);have d:=C.trans (d.mono aE);have WN:=ac.1;unfold maxLen at WN;have a6:=qh (b9 ac ay);have be:=qh (show R=if rJ F a (cZ l)≠0 then rJ F a (cZ l) else rr from a4.symm▸ax.o);clear ac a4 ay ax O KP;go_loopw [64] (λ i w3=>∃ q:Nat,i = bL bN q/\q<=l.length/\Hid (R=if rJ F a (cZ (l.drop q))≠0 then rJ F a (cZ (l.drop q)) else rr)/\IY w5 w3) (λ i _=>l.length+1 - (intOf i).toNat)
       case atStart=>exact⟨0,rfl,ca _,be,Below.refl _ _⟩
       case round =>
        obtain⟨q,rfl,g,HQ,eP⟩:=hrel;by_cases hql:q<l.length
        .obtain⟨ad,ci,rfl,bg,a7,D⟩:=aB.at_ (aB.keep (P:=RZ) (λ _ _ ⟨t,es,e,h⟩=>⟨t,es,e,h.keep eP⟩) a6.o.1 eP) hql;obtain⟨⟨pi,X⟩,J⟩:∃ z,l[q]=z:=⟨_,rfl⟩;have bq:=qh (show X.parts<=300 by have:=a6.o.2 l[q] (ce hql);rw[J] at this;exact this);have a5:=qh (show (pi=false->cZ (l.drop q)=cZ (l.drop (q+1)))/\(pi=true->cZ (l.drop q)=X :: cZ (l.drop (q+1))) by
          rw[cf hql,J];exact⟨λ h=>by subst h;rfl,λ h=>by subst h;rfl⟩)
         rw[J] at a7;obtain⟨t,bK,rfl,hE⟩:=a7;have bt:=qh hE;obtain⟨-,-,-,-,-,-,-⟩:=hE;rename_i A3 c3 A4 c4 bD;obtain⟨cs,b⟩:∃ cs:List Value,[bO t,bX pi,bL bN X.k,bL bN X.op,bO X.nm,bL bN X.v.k,bL bN X.v.n,bO X.v.s,bR A3 X.v.l.length c3,bR A4 X.ar.length c4]=cs:=⟨_,rfl⟩;have aq:cs.length=10:=by subst b;rfl
         have IX:=ZZ (w:=wr) aq (ad:=ad.add (q*10)) (λ j u hu=>D j u (by subst b;exact hu));have av:=Z4 (w:=wr) aq (by subst b;simp[ck]);obtain⟨W,hW⟩:=aC (wr.alloc (.cells cs.toArray 266 (0,0)));have uJ:IY wr W:=hW▸az wr _;have E:ah W wr.heap.size 266 cs.toArray:=hW▸ah.new wr _ _;have q0:W.cell? ⟨wr.heap.size,0,none⟩=some (bO t):=by rw[E.cell 0];subst b;rfl
         have q1:W.cell? ⟨wr.heap.size,1,none⟩=some (bX pi):=by rw[E.cell 1];subst b;rfl
         have y:IY w5 W:=eP.trans (uJ.mono eP.size);have M:=qh hql;clear D bg J;go_upto_region 19 with (fail);rw[<- hW];clear IX av hW;cases pi
         .have o:=qh (show R=if rJ F a (cZ (l.drop (q+1)))≠0 then rJ F a (cZ (l.drop (q+1))) else rr from (a5.o.1 rfl)▸HQ.o);go_wp2;go_roundw
          case rel=>exact⟨q+1,by go_num,M.o,o,y⟩
          case measure =>
           have:=M.o
           first | (simp[intOf];done) | (simp[intOf];omega)
         have ap:=qh (show R=if rJ F a (X :: cZ (l.drop (q+1)))≠0 then rJ F a (X :: cZ (l.drop (q+1))) else rr from (a5.o.2 rfl)▸HQ.o);cases a
         .have o:=qh (show R=10 from ap.o.trans (by simp[rJ]));go_wp2;go_ret;exact⟨ag o.o.symm,d.trans (y.mono d.size)⟩
         obtain⟨m,rfl,hm,aw⟩:=bs.o rfl;have a2:=d.trans (y.mono d.size);have aM:=bt.o;have XJ:=qh (show ∀ w',IY W w'->bF w' B0 Q m1 m2 m3 x f N K/\w'.cell? ⟨S,0,none⟩=some (bS (some ⟨Q,0,none⟩))/\S<w'.heap.size/\Tab w'/\Mx w'/\aZ w' w5.heap.size X (ai X A3 c3 A4 c4) from λ w' g=>by
          have G:=a2.trans (g.mono a2.size);exact⟨kX.o.1.keep G,Below.cell_of G kX.o.2.1,cj a0 G.size,(pK.o _ G).1,(pK.o _ G).2,aM.keep (uJ.mono eP.size |>.trans (g.mono y.size))⟩)
         obtain⟨I,hI⟩:=af (dA N K m);have KI:=qh (show ∀ w',IY W w'->Calls Tryz.prog 169 #[bS (some ⟨Q,0,none⟩),bL bN m] w' λ e H=>(∃ v,e = b0 v/\(∃ A c,v = bR A (I).length c/\bU H H.heap.size A (I)/\((A=none/\c=0/\I = [])\/(∃ m,I = [m]))))/\IY W H from λ w' g=>hI▸(GL (XJ.o w' g).1 m hm).mono λ _ _ ⟨h1,h2⟩=>⟨h1,g.trans (h2.mono g.size)⟩);obtain⟨r,hr⟩:=af (F X);have KT:=qh (show ∀ w' A6 c6,IY W w'->bU w' w'.heap.size A6 I->((A6=none/\c6=0/\I = [])\/(∃ m,I = [m]))->Calls Tryz.prog 120 #[bS (some ⟨S,0,none⟩),.agg (BC X A3 c3 A4 X.ar.length c4),bL bN m,bR A6 I.length c6] w' λ en H=>en = b0 (.tuple #[bL bN r.1,bL bN r.2])/\IY W H from λ w' A6 c6 g h1 h2=>by
          have h:=XJ.o w' g;rw[<- hr,aw,hI];exact (yw h.1 h.2.1 h.2.2.1 kX.o.2.2.2 h1 h2 h.2.2.2.2.2 (b4 y.size g.size) hm (by have:=bq.o;omega) h.2.2.2.1 h.2.2.2.2.1).mono λ _ _ ⟨h3,h4⟩=>⟨h3,g.trans (h4.mono g.size)⟩)
         have vg:=qh (show rJ F true (X :: cZ (l.drop (q+1)))=if r.2≠0 then r.2 else rJ F true (cZ (l.drop (q+1))) by rw[rJ,if_neg (by decide),hr]);have L:=(XJ.o W (Below.refl _ _)).2.1;have bh:W.cell? ⟨wr.heap.size,2,none⟩=some (bL bN X.k):=by rw[E.cell 2];subst b;rfl
         have bw:W.cell? ⟨wr.heap.size,3,none⟩=some (bL bN X.op):=by rw[E.cell 3];subst b;rfl
         have bb:W.cell? ⟨wr.heap.size,4,none⟩=some (bO X.nm):=by rw[E.cell 4];subst b;rfl
         have bi:W.cell? ⟨wr.heap.size,5,none⟩=some (bL bN X.v.k):=by rw[E.cell 5];subst b;rfl
         have bk:W.cell? ⟨wr.heap.size,6,none⟩=some (bL bN X.v.n):=by rw[E.cell 6];subst b;rfl
         have bv:W.cell? ⟨wr.heap.size,7,none⟩=some (bO X.v.s):=by rw[E.cell 7];subst b;rfl
         have ba:W.cell? ⟨wr.heap.size,8,none⟩=some (bR A3 X.v.l.length c3):=by rw[E.cell 8];subst b;rfl
         have bd:W.cell? ⟨wr.heap.size,9,none⟩=some (bR A4 X.ar.length c4):=by rw[E.cell 9];subst b;rfl
         have U:=Below.refl W.heap.size W;have Dq:=qh (show ∀ w',IY W w'->w'.cell? ⟨S,0,none⟩=some (bS (some ⟨Q,0,none⟩))/\w'.cell? ⟨wr.heap.size,2,none⟩=some (bL bN X.k)/\w'.cell? ⟨wr.heap.size,3,none⟩=some (bL bN X.op)/\w'.cell? ⟨wr.heap.size,4,none⟩=some (bO X.nm)/\w'.cell? ⟨wr.heap.size,5,none⟩=some (bL bN X.v.k)/\w'.cell? ⟨wr.heap.size,6,none⟩=some (bL bN X.v.n)/\w'.cell? ⟨wr.heap.size,7,none⟩=some (bO X.v.s)/\w'.cell? ⟨wr.heap.size,8,none⟩=some (bR A3 X.v.l.length c3)/\w'.cell? ⟨wr.heap.size,9,none⟩=some (bR A4 X.ar.length c4)/\IY W w' from λ w' g=>⟨Below.cell_of g L,Below.cell_of g bh,Below.cell_of g bw,Below.cell_of g bb,Below.cell_of g bi,Below.cell_of g bk,Below.cell_of g bv,Below.cell_of g ba,Below.cell_of g bd,g⟩);clear b aq E aM aw hI hr;go_upto_region 22 with (fail);go_region_held3 (λ w'=>w'.cell? ⟨S,0,none⟩=some (bS (some ⟨Q,0,none⟩))/\w'.cell? ⟨wr.heap.size,2,none⟩=some (bL bN X.k)/\w'.cell? ⟨wr.heap.size,3,none⟩=some (bL bN X.op)/\w'.cell? ⟨wr.heap.size,4,none⟩=some (bO X.nm)/\w'.cell? ⟨wr.heap.size,5,none⟩=some (bL bN X.v.k)/\w'.cell? ⟨wr.heap.size,6,none⟩=some (bL bN X.v.n)/\w'.cell? ⟨wr.heap.size,7,none⟩=some (bO X.v.s)/\w'.cell? ⟨wr.heap.size,8,none⟩=some (bR A3 X.v.l.length c3)/\w'.cell? ⟨wr.heap.size,9,none⟩=some (bR A4 X.ar.length c4)/\IY W w')
          (first | exact Dq.o _ U | exact Dq.o _ U.drew | exact Dq.o _ ak | exact Dq.o _ ak.drew | exact Dq.o _ Z)
          (first
           | (go_at_call 169;(with_reducible refine (KI.o _ U.drew).mono ?_);rintro e6 w6 ⟨⟨v6,rfl,A6,c6,rfl,Wi,a3⟩,ak⟩;have aD:=qh (b9 Wi a3);clear Wi a3)
           | (go_at_call 120;(with_reducible refine (KT.o _ A6 c6 ak aD.o.1 aD.o.2).mono ?_);rintro e7 w7 ⟨rfl,Z⟩))
         all_goals
          have KU:=d.trans ((y.trans (Z.mono y.size)).mono d.size);have Z5:=y.trans (Z.mono y.size);by_cases hr0:r.2=0
          .have o:=qh (show R=if rJ F true (cZ (l.drop (q+1)))≠0 then rJ F true (cZ (l.drop (q+1))) else rr from (vg.o.trans (if_neg (λ h=>h hr0)))▸ap.o);obtain⟨g0,bj⟩:=jk hr0;clear hr0;go_wp2;go_roundw
           case rel=>exact⟨q+1,by go_num,M.o,o,Z5⟩
           case measure =>
            have:=M.o
            first | (simp[intOf];done) | (simp[intOf];omega)
          .have o:=qh (show R=r.2 from ap.o.trans (by rw[vg.o,if_pos hr0,if_pos hr0]));obtain⟨g0,bj⟩:=fU hr0;clear hr0;go_wp2;go_ret;exact⟨ag o.o.symm,KU⟩
        .have e:q=l.length:=by omega
         subst e;have o:=qh (show R=rr from HQ.o.trans (by rw[cb];rfl));have bx:=qh (show R=Og F a (p.drop (k+1)) from o.o.trans bc.o.symm);go_wp2;go_roundw
         case rel=>exact⟨k+1,by go_num,aW.o,bx,d.trans (eP.mono d.size)⟩
         case measure =>
          have:=aW.o
          first | (simp[intOf];done) | (simp[intOf];omega)
   .have e:k=p.length:=by omega
    subst e;have o:=qh (show R=0 from V.o.trans (by rw[cb];rfl));go_wp2;go_ret;exact⟨ag o.o.symm,C⟩
end Go.Proofs.YtcnagconagpkcaaGreatDoor
namespace Go.Proofs.YtcnagconagpkcaaGreatDoor
open Go.RowKit
structure lg (w:World) (b:Nat) (l:List Int):Prop where
 ex:∃ D,w.ownsMap Tryz.prog 3 R0 b l.length D/\Maps.IsMap D/\∀ (s:Int) zd,D.atKey (.int .i64 s) zd=if s∈l then .held (.bool true) else zd
theorem aiE {s:Int} (h:1<=s/\s<=999):keyOf Tryz.prog 3 (.int .i64 s)=some (.int .i64 s):=Maps.keyOf_int_mk Tryz.underlying3 (by simp only[Lit.wf,Bool.and_eq_true,decide_eq_true_eq];rw[show IntKind.i64.min = -9223372036854775808 by rfl,show IntKind.i64.max=9223372036854775807 by rfl];omega)
theorem lg.made (w:World):lg (w.alloc (.map #[] 0)) w.heap.size []:=⟨⟨.map [],World.ownsMap_made w _ _ _,Maps.isMap_empty,λ _ _=>rfl⟩⟩
theorem lg.lt {w:World} {b:Nat} {l:List Int} (h:lg w b l):b<w.heap.size:=h.ex.choose_spec.1.lt
theorem lg.below {w w':World} {b:Nat} {l:List Int} (h:lg w b l) (j:IY w w'):lg w' b l:=by
 have c:=h.lt;obtain⟨D,⟨e,a,i,d⟩,f,g⟩:=h.ex;exact⟨⟨D,⟨e,a,(j.block b c).trans i,d⟩,f,g⟩⟩
theorem lg.get {w:World} {b:Nat} {l:List Int} (h:lg w b l) {s:Int} (i:1<=s/\s<=999) :
  (Instr.lookup 205 (.map (some b)) (bL bN s) false).run Tryz.prog w = .ok (bX (decide (s∈l))) w:=by
 obtain⟨D,g,j,e⟩:=h.ex;obtain⟨v,ps,c,d⟩:=g.lookup (Maps.int_keyed Tryz.underlying3) Tryz.underlying205 (by kernel_rfl:(zeroValue 4).run Tryz.prog w = .ok (.bool false) w) (zd:=.held (.bool false)) (zp:=[]) rfl (aiE i);rw[c];have f:=e s (.held (.bool false));have a:(DataW.held v:DataW Value)=D.atKey (.int .i64 s) (.held (.bool false)):=by
  unfold R0 at d;exact (Prod.mk.inj (Option.some.inj d)).1
 rw[f] at a;by_cases hm:s∈l
 .rw[if_pos hm] at a;rw[DataW.held.inj a,decide_eq_true hm]
 .rw[if_neg hm] at a;rw[DataW.held.inj a,decide_eq_false hm]
theorem BD {w:World} {d:Array Oper} {c:List Oper} {o:Oper} {a:Act} {Q:Exit->Act->World->Prop} (u:o.guard=none) (m x v:Operand) (g:o.op=Op.mapUpdate 205 m x v)
  {b:Nat} {l:List Int} {s:Int} (k:a.eval m = .map (some b)) (f:lg w b l) (y:l.length<maxLen) (A:a.eval x = bL bN s) (j:a.eval v = bX true) (B:1<=s/\s<=999)
  (n:∀ w',lg w' b (l ++ [s])->w.grownBy w' (some b)->wpList Tryz.prog d Q c (a.put o.dst undef) w') :
  wpList Tryz.prog d Q (o :: c) a w:=by
 obtain⟨D,r,i,p⟩:=f.ex;refine wpList_mapUpdate_own w u m x v _ g 3 4 (Maps.int_keyed Tryz.underlying3) Tryz.underlying205 R0 b l.length D k r y (.int .i64 s) (.bool true) (.int .i64 s) A j (aiE B) (.held (.bool true)) [] rfl
  (λ w' q z=>n w' ⟨⟨_,by rw[List.length_append];exact q,i.put _ _,λ t zd=>?_⟩⟩ z)
 by_cases h:s=t
 .subst h;rw[Maps.atKey_put_same i (show WideAt.IsKeyLit (.int _ _) from trivial),if_pos (by simp)]
 .rw[Maps.atKey_put_other (λ e=>h (by injection e with _ e;exact e.symm)),p t zd];simp[show ¬ t=s from λ e=>h e.symm]
end Go.Proofs.YtcnagconagpkcaaGreatDoor
namespace Go.Proofs.YtcnagconagpkcaaGreatDoor
open Go.RowKit
attribute [local go_sem ↓] Go.wp_at_zero Go.wp_at_succ
set_option maxHeartbeats 4000000
set_option maxRecDepth 100000
theorem box (w:World) (T:TypeId) (cs:Array Value):∃ W,W=w.alloc (.cells cs T (0,0))/\IY w W/\ah W w.heap.size T cs:=⟨_,rfl,az w _,ah.new w _ _⟩
theorem Sl {a:Nat} {l:List fD} {k:Nat} (h:k<l.length):CY a (l.take k) (l.drop k)=if aV l[k].nm.data.toList=false then 5 else if (l.take k).any (λ p=>decide (p.nm=l[k].nm)) then 6 else if aN l[k].os.length 1 40=true then 2 else
  if xk a [] l[k].os≠0 then xk a [] l[k].os else CY a (l.take (k+1)) (l.drop (k+1)):=by
 rw[cf h,CY,cc h]
theorem Wj {a:Nat} {l:List xe} {k:Nat} (h:k<l.length):xk a (l.take k) (l.drop k)=if aN l[k].code 1 999=true then 1 else if (l.take k).any (λ p=>decide (p.code=l[k].code)) then 6 else
  if rM (λ _=>(0,0)) a false l[k].ph≠0 then rM (λ _=>(0,0)) a false l[k].ph else xk a (l.take (k+1)) (l.drop (k+1)):=by
 rw[cf h,xk,cc h]
def Ub (kv:List (ByteArray × Value)) (l:List fD):Prop:=kv.length<=l.length/\∀ s,fK kv s=if l.any (λ d=>decide (d.nm=s))=true then some (bX true) else none
theorem Ub.add {a:List (ByteArray × Value)} {l:List fD} {k:Nat} (h:Ub a (l.take k)) (b:k<l.length):Ub ((l[k].nm,bX true) :: a) (l.take (k+1)):=by
 refine⟨by have:=h.1;simp at this ⊢;omega,λ s=>?_⟩;rw[cc b,cr,fK];by_cases e:l[k].nm=s
 .simp[e]
 .simp only[e,if_false,List.any_cons,decide_false,List.any_nil,Bool.or_false];exact h.2 s
theorem Wl {l:List xe} {c:Int}:decide (c∈l.map xe.code)=l.any (λ p=>decide (p.code=c)):=by
 rw[Bool.eq_iff_iff,decide_eq_true_iff,ct,List.mem_map];exact⟨λ ⟨p,a,b⟩=>⟨p,a,by simpa using b⟩,λ ⟨p,a,b⟩=>⟨p,a,by simpa using b⟩⟩
theorem Sm {w:World} {B0 gb m1 m2 m3:Nat} {x:nM} {f:bC} {N:List aj} {K:bu} (h:bF w B0 gb m1 m2 m3 x f N K) {cg:Nat} (ax:w.cell? ⟨cg,0,none⟩=some (bS (some ⟨gb,0,none⟩))) (be:cg<w.heap.size) (hN:iQ N) (P:Tab w) (aq:Mx w) :
  IE 72 #[bS (some ⟨cg,0,none⟩)] w (bL bN (ou f)):=by
 have y:=h.le;have c3:w.cell? ⟨gb,3,none⟩=some (bR x.AS f.lists.length x.cs):=h.blk.cell 3;have HL:=qh (b9 h.form.ls h.form.li);have a0:=qh (show ∀ w' p A c B,IY w w'->qG w' B A c p->B<=w'.heap.size->Calls Tryz.prog 112 #[bS (some ⟨cg,0,none⟩),bR A p.length c,bL bN (-1),bX false] w' λ e bj=>e = b0 (bL bN (rM (λ _=>(0,0)) f.bD.length false p))/\IY w' bj from
  λ w' p A c B u hp y=>zQ (h.keep u) (Below.cell_of u ax) (cj be u.size) hN hp y (λ h=>by cases h) (aA P u) (aq.below u))
 obtain⟨AS,an⟩:=af (x.AS);rw[an] at c3 HL;have bk:=h.blk.lt;obtain⟨cS,ae⟩:=af (x.cs);rw[ae] at c3 HL;have bd:=HL.o.2;have HF:=qh (ou.eq_def f);obtain⟨R,hR⟩:=af (ou f);rw[hR] at HF ⊢;obtain⟨nl,ak⟩:=af (f.bD.length);rw[ak] at HF a0;obtain⟨L,hL⟩:=af (f.lists);rw[hL] at HF HL c3 bd;clear h an ae hR ak hL P aq hN;by_cases h60:60<L.length
 .have m:=qh (HF.o.trans (if_pos h60));have a5:(60:Int)<L.length:=by omega
  go_enter Tryz.func72,Tryz.ntmps72;go_wp2;go_ret;exact⟨ag m.o.symm,Below.refl _ _⟩
 have HF:=qh (HF.o.trans (if_neg h60));have a5:¬ (60:Int)<L.length:=by omega
 have Q:=@run_makeMap Tryz.prog;go_enter Tryz.func72,Tryz.ntmps72;go_wp2;have bf:=qh (aP.made w);clear c3 ax Q;go_loopw [30] (λ i wr=>∃ (k:Nat) (kv:List (ByteArray × Value)),i = bL bN k/\k<=L.length/\Hid (R=CY nl (L.take k) (L.drop k))/\Hid (aP wr w.heap.size kv/\Ub kv (L.take k))/\IY w wr) (λ i _=>62 - (intOf i).toNat)
 case atStart=>exact⟨0,[],rfl,ca _,HF,qh ⟨bf.o,by simp,λ s=>rfl⟩,az w _⟩
 case round =>
  obtain⟨k,kv,rfl,hk,l,HM,u⟩:=hrel;have hs:=u.size;by_cases hlt:k<L.length
  case neg =>
   obtain rfl:k=L.length:=by omega
   have m:=qh (show R=0 from l.o.trans (by rw[cb];rfl));go_wp2;go_ret;exact⟨ag m.o.symm,u⟩
  have l:=qh (l.o.trans (Sl hlt));have aM:=qh (HM.o.2.add hlt);obtain⟨ad,ci,rfl,Z,⟨A,c,rfl,ac,a9,D⟩,a⟩:=aB.at_ (aB.keep (λ _ _ h=>h.keep (u.mono y)) HL.o.1 (u.mono y)) hlt;obtain⟨d,hd⟩:=af (L[k]);rw[hd] at a ac a9 D l aM;obtain⟨p0,p1⟩:=H7 a;obtain⟨W,hW,uJ,BW⟩:=box wr 92 #[bO d.nm,bR A d.os.length c];have q0:=BW.cell 0;have q1:=BW.cell 1;have n:=u.trans (uJ.mono hs);have aW:=qh hlt;have a4:=qh ac;have bg:kv.length<maxLen:=by
   have:=HM.o.2.1;rw[cq] at this;unfold maxLen;omega
  have uK:=HM.o.1.lt;have U:=HM.o.1.below uJ uK;clear a hd Z ac;go_upto_region 7 with (fail);rw[<- hW];clear p0 p1 hW;obtain⟨x1,T⟩:=af (aV d.nm.data.toList);have K1:=qh (T▸lU d.nm W D);rw[T] at l;clear T;cases x1
  case false =>
   have m:=qh (show R=5 by rw[l.o];simp);go_wp2_with (go_at_call 23;(with_reducible refine K1.o.mono ?_);rintro H I ⟨rfl,rfl⟩);go_ret;exact⟨ag m.o.symm,n⟩
  have l:=qh (l.o.trans (if_neg (by decide)));have hl:=U.get Tryz.underlying204 (Yr W) D;rw[HM.o.2.2 d.nm] at hl;obtain⟨x2,am⟩:=af ((L.take k).any (λ p=>decide (p.nm=d.nm)));rw[am] at hl l;clear am;cases x2
  case true =>
   have m:=qh (l.o.trans (if_pos rfl));go_wp2_with (go_at_call 23;(with_reducible refine K1.o.mono ?_);rintro H I ⟨rfl,rfl⟩);go_ret;exact⟨ag m.o.symm,n⟩
  have l:=qh (l.o.trans (if_neg (by decide)));obtain⟨x3,C⟩:=af (aN d.os.length 1 40);have K3:=qh (C▸kM d.os.length 1 40 W);rw[C] at l;have a3:=qh C;clear C;cases x3
  case true =>
   have m:=qh (l.o.trans (if_pos rfl));go_wp2_with (first
    | (go_at_call 23;(with_reducible refine K1.o.mono ?_);rintro H I ⟨rfl,rfl⟩)
    | (go_at_call 30;(with_reducible refine K3.o.mono ?_);rintro H I ⟨rfl,rfl⟩))
   go_ret;exact⟨ag m.o.symm,n⟩
  have l:=qh (l.o.trans (if_neg (by decide)));have PN:=pM a3.o;have Q:=@run_makeMap Tryz.prog;go_upto_region 15 with (first
   | (go_at_call 23;(with_reducible refine K1.o.mono ?_);rintro H I ⟨rfl,rfl⟩)
   | (go_at_call 30;(with_reducible refine K3.o.mono ?_);rintro H I ⟨rfl,rfl⟩)
   | (at_mapUpdate;refine jr rfl _ _ _ 204 4 rfl Tryz.underlying204 rfl U bg rfl rfl D ?_;intro z S G;have ab:=BW.grown G (λ e=>by injection e;omega);have v:=n.grown G n.size (λ g hg=>by cases hg;exact co _)))
  have t:=v.size;have Es:=qh (aP.alloc S (.map #[] 0));have bc:=qh (lg.made z);have bm:=v.trans ((az z (.map #[] 0)).mono t);have q1:z.cell? ⟨wr.heap.size,1,none⟩=some (bR A d.os.length c):=ab.cell 1;have Uz:=ab.lt;have O:=S.lt;have a2:∀ {w6:World},IY z w6->Below B0 wr w6:=λ h=>((uJ.mono (b4 y hs)).grown G (b4 y n.size) (λ g hg=>by cases hg;exact y)).trans (h.mono (b4 y t));clear Q hl q0 K1 K3 U BW S G;go_wp2;clear q1 ab;go_loopw [56] (λ i w6=>∃ j:Nat,i = bL bN j/\j<=d.os.length/\Hid (xk nl [] d.os=xk nl (d.os.take j) (d.os.drop j))/\Hid (lg w6 z.heap.size ((d.os.take j).map xe.code))/\IY z w6) (λ i _=>42 - (intOf i).toNat)
  case atStart=>exact⟨0,rfl,ca _,qh rfl,bc,az z _⟩
  case round =>
   obtain⟨j,rfl,hj,b,HC,q⟩:=hrel;have aE:=v.trans (q.mono t);have ap:=q.size;by_cases hjl:j<d.os.length
   case neg =>
    obtain rfl:j=d.os.length:=by omega
    have b:=qh (show xk nl [] d.os=0 from b.o.trans (by rw[cb];rfl));have m:=qh (l.o.trans (if_neg (λ h=>h b.o)));have a8:=qh (show aP wr w.heap.size ((d.nm,bX true) :: kv) from (Es.o.same (by rw[Below.heap_alloc z _ _ O])).below q O);go_wp2;go_roundw
    case rel=>exact⟨k+1,_,by go_num,aW.o,m,qh ⟨a8.o,aM.o⟩,aE⟩
    case measure =>
     have:=aW.o;simp[intOf];omega
   have b:=qh (b.o.trans (Wj hjl));have HK:=qh (show (d.os.take (j+1)).map xe.code=(d.os.take j).map xe.code ++ [d.os[j].code] by rw[cc hjl,List.map_append];rfl);obtain⟨ao,ci,rfl,Z,⟨A2,c2,rfl,Uc⟩,a⟩:=aB.at_ (aB.keep (λ _ _ h=>h.keep (a2 q)) a4.o (a2 q)) hjl;obtain⟨o,ho⟩:=af (d.os[j]);rw[ho] at a Uc b HK;have p0:wr.cell? (ao.add (j*4))=some (bL bN o.code):=a 0 _ rfl;have p1:wr.cell? ⟨(ao.add (j*4)).block,(ao.add (j*4)).off+1,none⟩=some (bR A2 o.ph.length c2):=a 1 _ rfl;have p2:wr.cell? ⟨(ao.add (j*4)).block,(ao.add (j*4)).off+2,none⟩=some (bX o.al):=a 2 _ rfl;have p3:wr.cell? ⟨(ao.add (j*4)).block,(ao.add (j*4)).off+3,none⟩=some (bX o.la):=a 3 _ rfl;obtain⟨W2,aD,Gw,a1⟩:=box wr 95 #[bL bN o.code,bR A2 o.ph.length c2,bX o.al,bX o.la];have r0:=a1.cell 0;have J:=q.trans (Gw.mono ap);have M:=v.trans (J.mono t);have bl:=HC.o.lt;have aw:=HC.o.below Gw;have al:=qh hjl;have ba:((d.os.take j).map xe.code).length<maxLen:=by rw[List.length_map,cq];unfold maxLen;omega
   obtain⟨x4,E⟩:=af (aN o.code 1 999);have K4:=qh (E▸kM o.code 1 999 W2);rw[E] at b;have bh:=qh E;clear a ho Z E;go_upto_region 18 with (fail);rw[<- aD];clear p0 p1 p2 p3 aD;cases x4
   case true =>
    have b:=qh (b.o.trans (if_pos rfl));have m:=qh (show R=1 from l.o.trans (by rw[b.o];rfl));go_wp2_with (go_at_call 30;(with_reducible refine K4.o.mono ?_);rintro H I ⟨rfl,rfl⟩);go_ret;exact⟨ag m.o.symm,M⟩
   have b:=qh (b.o.trans (if_neg (by decide)));have aa:=pM bh.o;have Y:=aw.get aa;rw[Wl] at Y;obtain⟨x5,av⟩:=af ((d.os.take j).any (λ p=>decide (p.code=o.code)));rw[av] at Y b;have a6:=qh aa;clear av aa;cases x5
   case true =>
    have b:=qh (b.o.trans (if_pos rfl));have m:=qh (show R=6 from l.o.trans (by rw[b.o];rfl));go_wp2_with (go_at_call 30;(with_reducible refine K4.o.mono ?_);rintro H I ⟨rfl,rfl⟩);go_ret;exact⟨ag m.o.symm,M⟩
   have b:=qh (b.o.trans (if_neg (by decide)));have bi:=qh Uc;have ay:=qh (show B0<=wr.heap.size by have:=aE.size;omega);clear Uc;go_upto_region 23 with (first
    | (go_at_call 30;(with_reducible refine K4.o.mono ?_);rintro H I ⟨rfl,rfl⟩)
    | (at_mapUpdate;refine BD rfl _ _ _ rfl rfl aw ba rfl rfl a6.o ?_;intro w7 ar xy;have a7:=a1.grown xy (λ e=>by injection e;omega);have X:=J.grown xy (b4 ap Gw.size) (λ g hg=>by cases hg;exact co _);have aR:=(Gw.mono ay.o).grown xy (b4 ay.o Gw.size) (λ g hg=>by cases hg;exact b4 y t)))
   have q1:=a7.cell 1;have F:=v.trans (X.mono t);have KP:=qh (a0.o w7 o.ph A2 c2 B0 F (bi.o.keep aR) (b4 y F.size));obtain⟨r,hr⟩:=af (rM (λ _=>(0,0)) nl false o.ph);rw[hr] at KP b;have aL:=qh ar;rw[<- HK.o] at aL;clear hr Y r0 ar xy aR;by_cases h0:r=0
   case' pos =>
    have b:=qh (b.o.trans (if_neg (λ h=>h h0)));obtain⟨g0,bb⟩:=jk h0
   case' neg =>
    have b:=qh (b.o.trans (if_pos h0));have m:=qh (show R=r from l.o.trans (by rw[b.o,if_pos h0]));obtain⟨g0,bb⟩:=fU h0
   all_goals clear h0
   all_goals go_wp2_with (go_at_call 112;(with_reducible refine KP.o.mono ?_);rintro e8 w8 ⟨rfl,V⟩)
   .go_ret;exact⟨ag m.o.symm,F.trans (V.mono F.size)⟩
   go_roundw
   case rel=>exact⟨j+1,by go_num,al.o,b,qh (aL.o.below V),X.trans (V.mono X.size)⟩
   case measure =>
    have:=al.o;simp[intOf];omega
end Go.Proofs.YtcnagconagpkcaaGreatDoor
namespace Go.Proofs.YtcnagconagpkcaaGreatDoor
open Go.RowKit
attribute [local go_sem ↓] Go.wp_at_zero Go.wp_at_succ
attribute [local go_sem ↓] ld_item st_item ld_node st_node ld_ans st_ans ld_part st_part ld_rule st_rule ld_form st_form
set_option maxHeartbeats 4000000
set_option maxRecDepth 100000
theorem bF.itm {w:World} {B0 p t r s:Nat} {x:nM} {f:bC} {N:List aj} {K:bu} (h:bF w B0 p t r s x f N K) {i:Nat} (z:i<N.length) :
  ∃ ad g o a b k l n e d m B1 b1 B2 b2 B3 b3 W cs,w.cell? ⟨p,5,none⟩=some (bR (some ad) N.length x.cn)/\(Df 59 (bS (some (ad.add (i*23))))).run Tryz.prog w = .ok (.agg cs.toArray) w/\(JB 59 (bS (some ⟨w.heap.size,0,none⟩)) (.agg cs.toArray)).run Tryz.prog (w.alloc (.cells #[bL bN 0,bO ⟨#[]⟩,bR none 0 0,bR none 0 0,bR none 0 0,bX false,bR none 0 0,bO ⟨#[]⟩,bL bN 0,bL bN 0,bL bN 0,bL bN 0,bO ⟨#[]⟩,bR none 0 0,bX false,bR none 0 0,bX false,bR none 0 0,bR none 0 0] 59 (0,0))) = .ok () W/\IY w W/\ah W w.heap.size 59 cs.toArray/\[bL bN N[i].it.k,bO N[i].it.nm,bR g N[i].it.iff.length o,bR a N[i].it.ph.length b,bR k N[i].it.items.length l,bX N[i].it.sh,bR n N[i].it.cnt.length e,bO N[i].it.over,bL bN N[i].it.ans.k,bL bN N[i].it.ans.lo,bL bN N[i].it.ans.hi,bL bN N[i].it.ans.pl,bO N[i].it.ans.ls,bR B1 N[i].it.ans.only.length b1,bX N[i].it.ans.sh,bR B2 N[i].it.ans.rs.length b2,bX N[i].it.ans.need,bR B3 N[i].it.ans.ch.length b3,bR d N[i].it.cmp.length m]=cs/\gY w B0 N[i].it cs:=by
 obtain⟨ad,g,o,a,b,k,l,n,e,d,m,B1,b1,B2,b2,B3,b3,A,c,B,y,hit,-,v⟩:=h.pI z;exact⟨ad,g,o,a,b,k,l,n,e,d,m,B1,b1,B2,b2,B3,b3,_,_,y,yN rfl (λ j u q=>v j u (by have:=(List.getElem?_eq_some_iff.1 q).1;show ([bL bN N[i].it.k,bO N[i].it.nm,bR g N[i].it.iff.length o,bR a N[i].it.ph.length b,bR k N[i].it.items.length l,bX N[i].it.sh,bR n N[i].it.cnt.length e,bO N[i].it.over,bL bN N[i].it.ans.k,bL bN N[i].it.ans.lo,bL bN N[i].it.ans.hi,bL bN N[i].it.ans.pl,bO N[i].it.ans.ls,bR B1 N[i].it.ans.only.length b1,bX N[i].it.ans.sh,bR B2 N[i].it.ans.rs.length b2,bX N[i].it.ans.need,bR B3 N[i].it.ans.ch.length b3,bR d N[i].it.cmp.length m] ++ [bL bN N[i].par,bL bN N[i].mZ,bL bN N[i].eQ,bR A N[i].lo.length c])[j]?=some u;rw[List.getElem?_append_left this];exact q)),JC rfl (by simp[ck]),az w _,ah.new w _ _,rfl,hit⟩
theorem bF.ndb {w:World} {B0 p t r s:Nat} {x:nM} {f:bC} {N:List aj} {K:bu} (h:bF w B0 p t r s x f N K) {i:Nat} (v:i<N.length) :
  ∃ ad g n a b j k m e d l B1 b1 B2 b2 B3 b3 A c W cs,w.cell? ⟨p,5,none⟩=some (bR (some ad) N.length x.cn)/\(Df 110 (bS (some (ad.add (i*23))))).run Tryz.prog w = .ok (.agg cs.toArray) w/\(JB 110 (bS (some ⟨w.heap.size,0,none⟩)) (.agg cs.toArray)).run Tryz.prog (w.alloc (.cells #[bL bN 0,bO ⟨#[]⟩,bR none 0 0,bR none 0 0,bR none 0 0,bX false,bR none 0 0,bO ⟨#[]⟩,bL bN 0,bL bN 0,bL bN 0,bL bN 0,bO ⟨#[]⟩,bR none 0 0,bX false,bR none 0 0,bX false,bR none 0 0,bR none 0 0,bL bN 0,bL bN 0,bL bN 0,bR none 0 0] 110 (0,0))) = .ok () W/\IY w W/\ah W w.heap.size 110 cs.toArray/\[bL bN N[i].it.k,bO N[i].it.nm,bR g N[i].it.iff.length n,bR a N[i].it.ph.length b,bR j N[i].it.items.length k,bX N[i].it.sh,bR m N[i].it.cnt.length e,bO N[i].it.over,bL bN N[i].it.ans.k,bL bN N[i].it.ans.lo,bL bN N[i].it.ans.hi,bL bN N[i].it.ans.pl,bO N[i].it.ans.ls,bR B1 N[i].it.ans.only.length b1,bX N[i].it.ans.sh,bR B2 N[i].it.ans.rs.length b2,bX N[i].it.ans.need,bR B3 N[i].it.ans.ch.length b3,bR d N[i].it.cmp.length l,bL bN N[i].par,bL bN N[i].mZ,bL bN N[i].eQ,bR A N[i].lo.length c]=cs/\gY w B0 N[i].it ([bL bN N[i].it.k,bO N[i].it.nm,bR g N[i].it.iff.length n,bR a N[i].it.ph.length b,bR j N[i].it.items.length k,bX N[i].it.sh,bR m N[i].it.cnt.length e,bO N[i].it.over,bL bN N[i].it.ans.k,bL bN N[i].it.ans.lo,bL bN N[i].it.ans.hi,bL bN N[i].it.ans.pl,bO N[i].it.ans.ls,bR B1 N[i].it.ans.only.length b1,bX N[i].it.ans.sh,bR B2 N[i].it.ans.rs.length b2,bX N[i].it.ans.need,bR B3 N[i].it.ans.ch.length b3,bR d N[i].it.cmp.length l])/\(qG w w.heap.size A c N[i].lo/\N[i].lo.length<=1000)/\w.cell? ((ad.add (i*23)).add 22)=some (bR A N[i].lo.length c):=by
 obtain⟨ad,g,n,a,b,j,k,m,e,d,l,B1,b1,B2,b2,B3,b3,A,c,y,u,hit,o,q⟩:=h.pI v;exact⟨ad,g,n,a,b,j,k,m,e,d,l,B1,b1,B2,b2,B3,b3,A,c,_,_,u,Gq rfl q,Ot rfl (by simp[ck]),az w _,ah.new w _ _,rfl,hit,o,q 22 _ rfl⟩
theorem e8 {w:World} {a:Addr} {e b c f i g d v7:Value} (h:∀ j u,[e,b,c,f,i,g,d,v7][j]?=some u->w.cell? (a.add j)=some u) :
  w.cell? a=some e/\w.cell? ⟨a.block,a.off+1,none⟩=some b/\w.cell? ⟨a.block,a.off+2,none⟩=some c/\w.cell? ⟨a.block,a.off+3,none⟩=some f/\w.cell? ⟨a.block,a.off+4,none⟩=some i/\w.cell? ⟨a.block,a.off+5,none⟩=some g/\w.cell? ⟨a.block,a.off+6,none⟩=some d/\w.cell? ⟨a.block,a.off+7,none⟩=some v7:=
 ⟨h 0 _ rfl,h 1 _ rfl,h 2 _ rfl,h 3 _ rfl,h 4 _ rfl,h 5 _ rfl,h 6 _ rfl,h 7 _ rfl⟩
theorem b8 {w:World} {g:Nat} {T:TypeId} {d a b e i f c v7:Value} (h:ah w g T #[d,a,b,e,i,f,c,v7]) :
  w.cell? ⟨g,0,none⟩=some d/\w.cell? ⟨g,1,none⟩=some a/\w.cell? ⟨g,2,none⟩=some b/\w.cell? ⟨g,3,none⟩=some e/\w.cell? ⟨g,4,none⟩=some i/\w.cell? ⟨g,5,none⟩=some f/\w.cell? ⟨g,6,none⟩=some c/\w.cell? ⟨g,7,none⟩=some v7:=
 ⟨h.cell 0,h.cell 1,h.cell 2,h.cell 3,h.cell 4,h.cell 5,h.cell 6,h.cell 7⟩
theorem afK {N:List aj} {s:ByteArray} (h:¬ xg N s<0):∃ i:Nat,xg N s=i/\i<N.length:=by
 unfold xg at h ⊢;split at h
 .exact absurd h (by decide)
 .rename_i a;rw[if_neg a];exact AV h
theorem Wn {w:World} {B0 gb m1 m2 m3:Nat} {x:nM} {f:bC} {N:List aj} {K:bu} (h:bF w B0 gb m1 m2 m3 x f N K) {cg:Nat} (ax:w.cell? ⟨cg,0,none⟩=some (bS (some ⟨gb,0,none⟩))) (bc:cg<w.heap.size) (hN:iQ N) {n:Nat} (hn:n<N.length) (hp:∀ e∈N[n].it.cnt,e.parts<=1000000) (ac:Tab w) (a0:Mx w) :
  IE 118 #[bS (some ⟨cg,0,none⟩),bL bN n] w (bL bN (Jz N f.lists K n)):=by
 have hB:=h.le;have bi:=h.cap;have wB:=h.nodes.1;obtain⟨ad,A1,c1,A2,c2,A3,c3,A4,c4,A5,c5,B1,b1,B2,b2,B3,b3,W,cs,T,H,ar,t,BW,J,hit⟩:=h.itm hn;have D:aB aZ 8 w B0 A4 N[n].it.cnt:=by subst J;cases hit;assumption
 have aR:N[n].it.over.size<=maxLen:=by subst J;cases hit;assumption
 obtain⟨d,hd⟩:=af (N[n].it);rw[hd] at D aR J hp;have q6:W.cell? ⟨w.heap.size,6,none⟩=some (bR A4 d.cnt.length c4):=by rw[BW.cell 6];subst J;rfl
 have q7:W.cell? ⟨w.heap.size,7,none⟩=some (bO d.over):=by rw[BW.cell 7];subst J;rfl
 have C:=D.1;unfold maxLen at C;have HL:=qh (D.keep (λ _ _ h=>h.keep (t.mono hB)) (t.mono hB));have HP:=qh hp;have kX:=qh (show ∀ w',IY W w'->bF w' B0 gb m1 m2 m3 x f N K/\w'.cell? ⟨cg,0,none⟩=some (bS (some ⟨gb,0,none⟩))/\cg<w'.heap.size/\w'.cell? ⟨gb,5,none⟩=some (bR (some ad) N.length x.cn)/\w'.cell? ⟨w.heap.size,7,none⟩=some (bO d.over)/\Tab w'/\Mx w'/\IY w w' from λ w' U=>by
  have j:=t.trans (U.mono t.size);exact⟨h.keep j,Below.cell_of j ax,cj bc j.size,Below.cell_of j T,Below.cell_of U q7,aA ac j,a0.below j,j⟩)
 have KF:=qh (show ∀ w' e cs,IY W w'->aZ w' B0 e cs->e.parts<=1000000->Calls Tryz.prog 120 #[bS (some ⟨cg,0,none⟩),.agg cs.toArray,bL bN n,bR none 0 0] w' λ en bh=>en = b0 (.tuple #[bL bN (bT N K n [] e).1,bL bN (bT N K n [] e).2])/\IY w' bh from λ w' e cs hq hx be=>by
  obtain⟨b1,b2,b3,-,-,b6,b7,b8⟩:=kX.o w' hq;exact yw b1 b2 b3 hN (more:=[]) ⟨by decide,[],Reads.none_,λ i hi=>by cases hi⟩ (.inl ⟨rfl,rfl,rfl⟩) hx (b4 hB b8.size) hn be b6 b7)
 have HN:=qh (b9 hN hd);obtain⟨R,hR⟩:=af (Jz N f.lists K n);have E:=qh (show R=if dM (bT N K n []) 2 d.cnt≠0 then dM (bT N K n []) 2 d.cnt else Tu N f.lists n by rw[<- hR];unfold Jz;rw[jy hn,hd]);rw[hR];obtain⟨FF,a3⟩:=af (bT N K n []);rw[a3] at KF E;obtain⟨O,hO⟩:=af (Tu N f.lists n);rw[hO] at E;have o:=qh (show O=if d.over=⟨#[]⟩ then 0 else if xg N d.over<0 then 5 else if je N (xg N d.over) n=false then 14 else if (ny N (xg N d.over)).it.ans.k≠5 then 8 else
  if N[n].lo.length<(ny N (xg N d.over)).lo.length\/(ny N (xg N d.over)).lo≠N[n].lo.take (ny N (xg N d.over)).lo.length then 5 else
  if 20<(match nU f.lists (ny N (xg N d.over)).it.ans.ls with | some l=>l.os.length | none=>0) then 2 else 0 by rw[<- hO];unfold Tu;rw[jy hn,hd];rfl)
 have HK:=qh ax;have bk:=h.blk.lt;clear h D hp ac a0 hR a3 hO J hit BW hN hd;go_enter Tryz.func118,Tryz.ntmps118;go_upto_region 2 with (fail);clear H ar T ax;go_wp2;clear q6 q7;go_loopw [26] (λ i wr=>∃ k:Nat,i = bL bN k/\k<=d.cnt.length/\Hid (dM FF 2 d.cnt=dM FF 2 (d.cnt.drop k))/\IY W wr) (λ i _=>d.cnt.length+1 - (intOf i).toNat)
 case atStart=>exact⟨0,rfl,ca _,qh rfl,Below.refl _ _⟩
 case round =>
  obtain⟨k,rfl,hk,HD,U⟩:=hrel;have hs:=U.size;by_cases hlt:k<d.cnt.length
  .have HD:=qh (HD.o.trans (GM hlt));obtain⟨ae,ci,rfl,a8,aw,M⟩:=aB.at_ (aB.keep (λ _ _ h=>h.keep (U.mono (b4 hB t.size))) HL.o (U.mono (b4 hB t.size))) hlt;obtain⟨a,ha⟩:=af (d.cnt[k]);have nV:=qh (HP.o a (ha▸ce hlt));rw[ha] at aw HD;have nP:=qh aw;have aW:=qh hlt;obtain⟨-,-,-,-,-,-,-⟩:=aw;rename_i A3 c3 A4 c4 bl;obtain⟨f0,f1,f2,f3,f4,f5,f6,f7⟩:=e8 M;obtain⟨W3,a5,B,B3⟩:=box wr 67 (BC a A3 c3 A4 a.ar.length c4);have Q:=U.trans (B.mono hs);clear M ha a8;go_upto_region 5 with (fail);rw[<- a5];clear a5 f0 f1 f2 f3 f4 f5 f6 f7;obtain⟨f0,f1,f2,f3,f4,f5,f6,f7⟩:=b8 B3;have KA:=qh (show Calls Tryz.prog 120 #[bS (some ⟨cg,0,none⟩),.agg (BC a A3 c3 A4 a.ar.length c4),bL bN n,bR none 0 0] W3 _ from KF.o W3 a _ Q (nP.o.keep (B.mono (b4 hB (b4 t.size hs)))) nV.o);obtain⟨r,hr⟩:=af (FF a);rw[hr] at KA HD;clear hr;by_cases h0:r.2=0
   case' neg =>
    have p:=qh (show R=r.2 from E.o.trans (by rw[HD.o.trans (if_pos h0)];exact if_pos h0));obtain⟨g0,aq⟩:=fU h0;clear h0
   case' pos =>
    have aM:=qh (HD.o.trans (if_neg (λ h=>h h0)));obtain⟨g0,aq⟩:=jk h0;clear h0;by_cases h7:r.1=2
    case' neg =>
     have p:=qh (show R=8 from E.o.trans (by rw[aM.o.trans (if_pos h7)];rfl));obtain⟨g7,bb⟩:=fU h7;clear h7
    case' pos =>
     have p:=qh (aM.o.trans (if_neg (λ h=>h h7)));obtain⟨g7,bb⟩:=jk h7;clear h7
   all_goals
    go_wp2_with (go_at_call 120;(with_reducible refine KA.o.mono ?_);rintro e1 w4 ⟨rfl,g⟩;have g:=Q.trans (g.mono Q.size);clear f0 f1 f2 f3 f4 f5 f6 f7)
    first
     | (go_ret
        exact⟨ag p.o.symm,t.trans (g.mono t.size)⟩)
     | (go_roundw
        case rel=>exact⟨k+1,by go_num,aW.o,p,g⟩
        case measure =>
         have:=aW.o;simp[intOf];omega)
  obtain rfl:k=d.cnt.length:=by omega
  have E:=qh (show R=O from E.o.trans (by rw[HD.o,cb];rfl));obtain⟨b1,b2,b3,Z,b5,-,-,b8⟩:=kX.o wr U;by_cases ho:d.over=⟨#[]⟩
  .have p:=qh (show R=0 from E.o.trans (o.o.trans (if_pos ho)));obtain⟨g0,aq⟩:=aeH ho;clear ho b1;go_wp2;go_ret;exact⟨ag p.o.symm,b8⟩
  have o:=qh (o.o.trans (if_neg ho));obtain⟨g0,aq⟩:=aeI ho;obtain⟨q,hq⟩:=af (xg N d.over);have HQ:=qh hq;rw[hq] at o;have KQ:=qh (Later.call (W:=wr) (f:=173) (args:=#[bS (some ⟨gb,0,none⟩),bO d.over]) (v:=bL bN q) λ w' j=>(Lm (b1.keep j) d.over aR).mono λ _ _ ⟨he,hw⟩=>⟨by rw[he,HQ.o],hw▸Below.refl _ _⟩);have r1:=Later.cell b2;have r2:=Later.cell b5;clear ho hq b1 Z;go_upto_region 13 with (fail);refine aF (by kernel_rfl) (by kernel_rfl) ?_
  repeat (go_big_quiet_step (first | (with_reducible exact KQ.o _)))
  refine wpQuiet_nil ?_;intro W9 z;have eP:=dY z;clear z KQ r1 r2 b2 b5;have eP:=U.trans (eP.mono hs);obtain⟨b1,b2,b3,Z,b5,-,-,b8⟩:=kX.o W9 eP;by_cases hq0:q<0
  .have p:=qh (E.o.trans (o.o.trans (if_pos hq0)));clear b1;go_wp2;go_ret;exact⟨ag p.o.symm,b8⟩
  have o:=qh (o.o.trans (if_neg hq0));obtain⟨m,hm,V⟩:=afK (HQ.o▸hq0);obtain rfl:q=(m:Int):=HQ.o.symm.trans hm;obtain⟨ae,A1,c1,A2,c2,A3,c3,A4,c4,A5,c5,B1,b1,B2,b2,B3,b3,A,c,W3,ds,T,H,ar,B,B3,S,hit,ap,-⟩:=b1.ndb V;obtain rfl:ad=ae:=by rw[Z] at T;injection T with h;injection h with h;exact Option.some.inj h
  obtain⟨y,hy⟩:=af (N[m]);have ak:=eP.trans (B.mono eP.size);rw[jy V,hy] at o;rw[hy] at S hit ap;have z8:W3.cell? ⟨W9.heap.size,8,none⟩=some (bL bN y.it.ans.k):=by rw[B3.cell 8];subst S;rfl
  have aa:W3.cell? ⟨W9.heap.size,12,none⟩=some (bO y.it.ans.ls):=by rw[B3.cell 12];subst S;rfl
  have F:W3.cell? ⟨W9.heap.size,22,none⟩=some (bR A y.lo.length c):=by rw[B3.cell 22];subst S;rfl
  have bf:y.it.ans.ls.size<=maxLen:=by cases hit;exact sK.l5 (by assumption)
  have ay:=qh ap;have bn:=qh V;clear S hit hy hm ap B3 hq0 T;go_upto_region 17 with (fail);clear H ar b1 b2 Z b5 b8;obtain⟨b1,b2,b3,Z,b5,-,-,b8⟩:=kX.o W3 ak;obtain⟨x1,an⟩:=af (je N m n);have KA:=qh (an▸yg b1 HN.o.1 m n V hn);rw[an] at o;clear an b1;cases x1
  case false =>
   have p:=qh (E.o.trans (o.o.trans (if_pos rfl)));go_wp2_with (go_at_call 174;(with_reducible refine KA.o.mono ?_);rintro e1 w4 ⟨rfl,g⟩);go_ret;exact⟨ag p.o.symm,b8.trans (g.mono b8.size)⟩
  have o:=qh (o.o.trans (if_neg (by decide)));go_upto_region 19 with (go_at_call 174;(with_reducible refine KA.o.mono ?_);rintro e1 w4 ⟨rfl,g⟩);have z8:=Below.cell_of g z8;have aa:=Below.cell_of g aa;have F:=Below.cell_of g F;have aD:=ak.trans (g.mono ak.size);clear b2 b3 Z b5 b8;obtain⟨b1,b2,b3,Z,b5,-,-,b8⟩:=kX.o w4 aD;by_cases h5:y.it.ans.k=5
  case neg =>
   have p:=qh (E.o.trans (o.o.trans (if_pos h5)));obtain⟨g5,WO⟩:=fU h5;clear b1;go_wp2;go_ret;exact⟨ag p.o.symm,b8⟩
  have o:=qh (o.o.trans (if_neg (λ h=>h h5)));obtain⟨g5,WO⟩:=jk h5;have bo:=qh b1;obtain⟨ae,-,-,-,-,-,-,-,-,-,-,-,-,-,-,-,-,A9,c9,-,-,T,-,-,-,-,-,-,av,P⟩:=b1.ndb hn;obtain rfl:ad=ae:=by rw[Z] at T;injection T with h;injection h with h;exact Option.some.inj h
  have a4:=ay.o.2;have a7:=av.2;have Y:=qh av;obtain⟨u,a2⟩:=af (y.lo);rw[a2] at o ay F a4;have al:=qh (show qG w4 w4.heap.size A c u from (ay.o.1.keep (B.trans (g.mono B.size))).up (b4 B.size g.size));obtain⟨I,a6⟩:=af (N[n].lo);rw[a6] at o Y P a7;have P:w4.cell? ⟨(ad.add (n*23)).block,(ad.add (n*23)).off+22,none⟩=some (bR A9 I.length c9):=P;clear T h5 av a6 b1 a2;have r1:=Later.cell b2;have r2:=Later.cell Z;have r3:=Later.cell F;have r4:=Later.cell P;by_cases C:I.length<u.length
  .have p:=qh (E.o.trans (o.o.trans (if_pos (.inl C))));have X:(I.length:Int)<u.length:=by omega
   have H:decide ((I.length:Int)<u.length)=true:=decide_eq_true X;have a1:decide (I.length<u.length)=true:=decide_eq_true C;go_upto_region 21 with (fail);refine aF (by kernel_rfl) (by kernel_rfl) ?_
   repeat (go_big_quiet_step (fail))
   refine wpQuiet_nil ?_;intro W8 z;have L:=dY z;clear z r1 r2 r3 r4;go_wp2;go_ret;exact⟨ag p.o.symm,b8.trans (L.mono b8.size)⟩
  have X:¬ (I.length:Int)<u.length:=by omega
  have H:decide ((I.length:Int)<u.length)=false:=decide_eq_false X;have a1:decide (I.length<u.length)=false:=decide_eq_false C;obtain⟨b,am⟩:=af (decide (u=I.take u.length));have KE:=qh (Later.call (W:=w4) (f:=16) (args:=#[bR A u.length c,bR A9 u.length c9]) (v:=bX b) λ w' j=>by
   have ab:(I.take u.length).length=u.length:=by rw[cq];omega
   have h:=jG A A9 c c9 w4.heap.size w4.heap.size u (I.take u.length) w' al.o.2.2.1 (by rw[ab];exact al.o.2.2.1) (al.o.1.below j) (bV.take (Y.o.1.1.below j) _);rw[ab,am] at h;exact h)
  have bg:u.length<=c9:=by have:=Y.o.1.2.1;omega
  have aE:A9=none->u = []/\I = []:=λ e=>by
   rcases Nat.eq_zero_or_pos I.length with h | h
   .exact⟨cu (by omega),cu h⟩
   .obtain⟨bj,e',-⟩:=Y.o.1.1.2 h;rw[e] at e';cases e'
  have ao:=qh am;have OD:=qh C;clear am C;rcases A9 with _ | a9
  case' none =>
   obtain⟨rfl,rfl⟩:=aE rfl;clear aE X H a1 bg a4 a7;simp only[List.length_nil] at KE r3 r4 F P
  case' some =>
   clear aE
  all_goals
   go_upto_region 21 with (fail);refine aF (by kernel_rfl) (by kernel_rfl) ?_
   repeat (go_big_quiet_step (first | (with_reducible exact KE.o _)))
   refine wpQuiet_nil ?_;intro W8 z;have L:=dY z;clear z r1 r2 r3 r4 KE;cases b
   case false =>
    have p:=qh (E.o.trans (o.o.trans (if_pos (.inr (of_decide_eq_false ao.o)))))
    first
     | exact absurd ao.o (by decide)
     | (go_wp2
        go_ret;exact⟨ag p.o.symm,b8.trans (L.mono b8.size)⟩)
   have o:=qh (o.o.trans (if_neg (λ h=>h.elim OD.o (λ h=>h (of_decide_eq_true ao.o)))));have bd:=aD.trans (L.mono aD.size);have aa:=Below.cell_of L aa;obtain⟨d1,d2,d3,d4,d5,-,-,d8⟩:=kX.o W8 bd;have d6:W8.cell? ⟨gb,7,none⟩=some (.map (some m2)):=d1.blk.cell 7;obtain⟨kv,hm,G⟩:=d1.ls;have hl:=(show aP W8.drew m2 kv from hm.same rfl).get Tryz.underlying113 (Yl W8.drew) bf;have G:=G y.it.ans.ls;obtain⟨n9,aL⟩:=af ((match nU f.lists y.it.ans.ls with | some l=>l.os.length | none=>0));have hV:∃ s A' c',((fK kv y.it.ans.ls).getD (.agg #[.string ⟨#[]⟩,.slice none 0 0])) = .agg #[.string s,.slice A' n9 c']:=by
    rw[<- aL];split at G
    .rename_i e;rw[G,e];exact⟨_,_,_,rfl⟩
    .rename_i l e;obtain⟨A',c',e',-⟩:=G;rw[e',e];exact⟨_,_,_,rfl⟩
   obtain⟨s9,A',c',hV⟩:=hV;rw[hV] at hl;rw[aL] at o;have bm:∀ W:World,(Instr.field 92 (.agg #[bO s9,bR A' n9 c']) 1).run Tryz.prog W = .ok (bR A' n9 c') W:=λ _=>by kernel_rfl
   clear hV aL G hm d1 d3 d4 d5 F z8;by_cases h20:20<n9
   case' pos =>
    have p:=qh (E.o.trans (o.o.trans (if_pos h20)));have ba:(20:Int)<n9:=by omega
   case' neg =>
    have p:=qh (E.o.trans (o.o.trans (if_neg h20)));have ba:¬ (20:Int)<n9:=by omega
   all_goals
    clear h20;go_upto_region 23 with (fail);go_region;go_wp2;go_ret;exact⟨ag p.o.symm,by first | exact d8 | exact d8.drew⟩
set_option maxHeartbeats 4000000
set_option maxRecDepth 100000
theorem Ud {w:World} {cs:List Value} (a:cs.length=10) (b:∀ v∈cs,v.oneCell'=true):(JB 57 (bS (some ⟨w.heap.size,0,none⟩)) (.agg cs.toArray)).run Tryz.prog (w.alloc (.cells #[bL bN 0,bL bN 0,bL bN 0,bL bN 0,bO ⟨#[]⟩,bR none 0 0,bX false,bR none 0 0,bX false,bR none 0 0] 57 (0,0))) = .ok () (w.alloc (.cells cs.toArray 57 (0,0))):=
 yj (by rw[show cs.toArray.size=10 from a];kernel_rfl) (show 10=cs.toArray.size from a.symm) (by rw[<- Array.all_toList];exact cp.2 b)
theorem PS {w:World} {ad:Addr} {cs:List Value} (a:cs.length=10) (b:∀ j u,cs[j]?=some u->w.cell? (ad.add j)=some u):(Df 144 (bS (some ad))).run Tryz.prog w = .ok (.agg cs.toArray) w:=
 yh Tryz.underlying144 rfl (by rw[a];kernel_rfl) b
theorem PT {w:World} {cs:List Value} (a:cs.length=10) (b:∀ v∈cs,v.oneCell'=true):(JB 144 (bS (some ⟨w.heap.size,0,none⟩)) (.agg cs.toArray)).run Tryz.prog (w.alloc (.cells #[bL bN 0,bL bN 0,bO ⟨#[]⟩,bL bN 0,bL bN 0,bO ⟨#[]⟩,bR none 0 0,bR none 0 0,bX false,bR none 0 0] 144 (0,0))) = .ok () (w.alloc (.cells cs.toArray 144 (0,0))):=
 yj (by rw[show cs.toArray.size=10 from a];kernel_rfl) (show 10=cs.toArray.size from a.symm) (by rw[<- Array.all_toList];exact cp.2 b)
theorem bF.al7 {w:World} {B0 d k e g:Nat} {x:nM} {f:bC} {N:List aj} {K:bu} (h:bF w B0 d k e g x f N K) {i:Nat} (m:i<N.length) :
  ∃ ad B1 b1 B2 b2 B3 b3 W cs,w.cell? ⟨d,5,none⟩=some (bR (some ad) N.length x.cn)/\(Df 57 (bS (some ⟨(ad.add (i*23)).block,(ad.add (i*23)).off+8,none⟩))).run Tryz.prog w = .ok (.agg cs.toArray) w/\(JB 57 (bS (some ⟨w.heap.size,0,none⟩)) (.agg cs.toArray)).run Tryz.prog (w.alloc (.cells #[bL bN 0,bL bN 0,bL bN 0,bL bN 0,bO ⟨#[]⟩,bR none 0 0,bX false,bR none 0 0,bX false,bR none 0 0] 57 (0,0))) = .ok () W/\IY w W/\ah W w.heap.size 57 cs.toArray/\[bL bN N[i].it.ans.k,bL bN N[i].it.ans.lo,bL bN N[i].it.ans.hi,bL bN N[i].it.ans.pl,bO N[i].it.ans.ls,bR B1 N[i].it.ans.only.length b1,bX N[i].it.ans.sh,bR B2 N[i].it.ans.rs.length b2,bX N[i].it.ans.need,bR B3 N[i].it.ans.ch.length b3]=cs/\sK w B0 N[i].it.ans B1 b1 B2 b2 B3 b3:=by
 obtain⟨ad,r,B,n,o,s,v,z,q,p,y,B1,b1,B2,b2,B3,b3,A,c,t,l,hit,-,b⟩:=h.pI m;refine⟨ad,B1,b1,B2,b2,B3,b3,_,_,l,yl rfl (λ j u a=>?_),Ud rfl (by simp[ck]),az w _,ah.new w _ _,rfl,by cases hit;assumption⟩
 match j,a with
 | 0,a=>exact b 8 _ a
 | 1,a=>exact b 9 _ a
 | 2,a=>exact b 10 _ a
 | 3,a=>exact b 11 _ a
 | 4,a=>exact b 12 _ a
 | 5,a=>exact b 13 _ a
 | 6,a=>exact b 14 _ a
 | 7,a=>exact b 15 _ a
 | 8,a=>exact b 16 _ a
 | 9,a=>exact b 17 _ a
 | j+10,a=>simp at a
theorem PU {N:List aj} {K:bu} {a:Nat} {n:Int} {l:List vS} {k:Nat} (h:k<l.length):uF N K a n (l.drop k)=if dM (bT N K n (dA N K n)) 7 [l[k].must]≠0 then dM (bT N K n (dA N K n)) 7 [l[k].must] else
  if rM (bT N K n (dA N K n)) a true l[k].ph≠0 then rM (bT N K n (dA N K n)) a true l[k].ph else uF N K a n (l.drop (k+1)):=by
 rw[cf h,uF]
theorem Sr {w:World} {B0 gb m1 m2 m3:Nat} {x:nM} {f:bC} {N:List aj} {K:bu} (h:bF w B0 gb m1 m2 m3 x f N K) {F:Nat} (M:w.cell? ⟨F,0,none⟩=some (bS (some ⟨gb,0,none⟩))) (a6:F<w.heap.size) (hN:iQ N) {n:Nat} (hn:n<N.length) (ak:∀ e∈N[n].it.ans.only,e.parts<=1000000) (ap:∀ r∈N[n].it.ans.ch,r.must.parts<=1000000) (ac:Tab w) (aw:Mx w) :
  IE 119 #[bS (some ⟨F,0,none⟩),bL bN n] w (bL bN (CZ N K f.bD.length n)):=by
 have D:=h.le;have bd:=h.cap;have wB:=h.nodes.1;obtain⟨ad,B1,b1,B2,b2,B3,b3,W,cs,cX,ba,a5,an,BW,aa,T⟩:=h.al7 hn;obtain⟨d,hd⟩:=af (N[n].it);rw[hd] at T aa ak ap;have q5:W.cell? ⟨w.heap.size,5,none⟩=some (bR B1 d.ans.only.length b1):=by rw[BW.cell 5];subst aa;rfl
 have q9:W.cell? ⟨w.heap.size,9,none⟩=some (bR B3 d.ans.ch.length b3):=by rw[BW.cell 9];subst aa;rfl
 have aM:=T.h3.1;unfold maxLen at aM;have HL:=qh (b9 T.h1 (b9 T.h3 T.l3));have kX:=qh (show ∀ w',IY w w'->bF w' B0 gb m1 m2 m3 x f N K/\w'.cell? ⟨F,0,none⟩=some (bS (some ⟨gb,0,none⟩))/\F<w'.heap.size/\Tab w'/\Mx w' from λ w' L =>
  ⟨h.keep L,Below.cell_of L M,cj a6 L.size,aA ac L,aw.below L⟩)
 have KB:=qh (show ∀ w' (l:List Ex) A c B (more:List aG) AM cm,IY w w'->aB aZ 8 w' B A l->B<=w'.heap.size->(∀ e∈l,e.parts<=1000000)->bU w' w'.heap.size AM more->((AM=none/\cm=0/\more = [])\/(∃ m,more = [m]))->Calls Tryz.prog 117 #[bS (some ⟨F,0,none⟩),bR A l.length c,bL bN n,bR AM more.length cm] w' λ en j=>en = b0 (bL bN (dM (bT N K n more) 7 l))/\IY w' j from
  λ w' l A c B more AM cm t hl aR hp a2 a7=>by
   obtain⟨b1,b2,b3,b6,b7⟩:=kX.o w' t;exact JQ b1 b2 b3 hN a2 a7 hl aR hn hp b6 b7)
 have KP:=qh (show ∀ w' p A c B,IY w w'->qG w' B A c p->B<=w'.heap.size->Calls Tryz.prog 112 #[bS (some ⟨F,0,none⟩),bR A p.length c,bL bN n,bX true] w' λ e j=>e = b0 (bL bN (rM (bT N K n (dA N K n)) f.bD.length true p))/\IY w' j from
  λ w' p A c B hb hp D=>by
   obtain⟨b1,b2,b3,b6,b7⟩:=kX.o w' hb;exact zQ b1 b2 b3 hN hp D (λ _=>⟨n,rfl,hn,rfl⟩) b6 b7)
 have KI:=qh (show ∀ w',IY w w'->Calls Tryz.prog 169 #[bS (some ⟨gb,0,none⟩),bL bN n] w' λ e j=>(∃ v,e = b0 v/\(∃ A c,v = bR A (dA N K n).length c/\bU j j.heap.size A (dA N K n)/\((A=none/\c=0/\dA N K n = [])\/(∃ m,dA N K n = [m]))))/\IY w' j from λ w' t=>GL (kX.o w' t).1 n hn);obtain⟨R,hR⟩:=af (CZ N K f.bD.length n);have HF:=qh (show R=if dM (bT N K n [⟨vU,4,[]⟩]) 7 d.ans.only≠0 then dM (bT N K n [⟨vU,4,[]⟩]) 7 d.ans.only else uF N K f.bD.length n d.ans.ch by rw[<- hR];unfold CZ;rw[jy hn,hd]);rw[hR];obtain⟨r,hr⟩:=af (dM (bT N K n [⟨vU,4,[]⟩]) 7 d.ans.only);rw[hr] at HF;obtain⟨nl,aq⟩:=af (f.bD.length);rw[aq] at HF KP;obtain⟨W2,aD,ao,B2⟩:=box W 51 #[bO { data:=#[111,112,116,105,111,110] },bL bN 4,bR none 0 0];have q:=an.trans (ao.mono an.size);have K1:=qh (show Calls Tryz.prog 117 #[bS (some ⟨F,0,none⟩),bR B1 d.ans.only.length b1,bL bN n,bR (some ⟨W.heap.size,0,none⟩) 1 1] W2 _ from hr▸KB.o W2 d.ans.only B1 b1 B0 [⟨vU,4,[]⟩] (some ⟨W.heap.size,0,none⟩) 1 q (HL.o.1.keep (λ _ _ h=>h.keep (q.mono D)) (q.mono D)) (b4 D q.size) ak
  ⟨by decide,_,⟨rfl,λ _=>⟨_,rfl,B2.lt,nI (cs:=[bO { data:=#[111,112,116,105,111,110] },bL bN 4,bR none 0 0]) B2⟩⟩,λ i hi=>by
   obtain rfl:i=0:=by simpa using hi
   exact⟨⟨none,0,rfl,Reads.none_,co _⟩,(show vU.size<=maxLen by decide),ca _,λ s hs=>by cases hs⟩⟩ (.inr ⟨_,rfl⟩))
 have a8:=qh ap;clear h ak ap ac aw hR hr aq aa BW B2 hN hd T;go_enter Tryz.func119,Tryz.ntmps119;go_upto_region 2 with (fail);clear ba a5 cX;have a1:=Below.cell_of an M;by_cases h0:r=0
 case' pos =>
  have HF:=qh (HF.o.trans (if_neg (λ h=>h h0)));obtain⟨g0,am⟩:=jk h0
 case' neg =>
  have X:=qh (HF.o.trans (if_pos h0));obtain⟨g0,am⟩:=fU h0
 all_goals clear h0
 all_goals go_upto_region 3 with (rw[<- aD];go_at_call 117;(with_reducible refine K1.o.mono ?_);rintro e1 w1 ⟨rfl,V⟩)
 .have bQ:=q.trans (V.mono q.size);go_wp2;go_ret;exact⟨ag X.o.symm,bQ⟩
 have bQ:=q.trans (V.mono q.size);have q9:=Below.cell_of (ao.trans (V.mono ao.size)) q9;clear q5 a1 K1 aD V;go_wp2;clear q9 M;go_loopw [36] (λ i wr=>∃ k:Nat,i = bL bN k/\k<=d.ans.ch.length/\Hid (R=uF N K nl n (d.ans.ch.drop k))/\IY w wr) (λ i _=>d.ans.ch.length+1 - (intOf i).toNat)
 case atStart=>exact⟨0,rfl,ca _,HF,bQ⟩
 case round =>
  obtain⟨k,rfl,hk,HD,hb⟩:=hrel;have hs:=hb.size;by_cases hlt:k<d.ans.ch.length
  case neg =>
   obtain rfl:k=d.ans.ch.length:=by omega
   have X:=qh (show R=0 from HD.o.trans (by rw[cb];rfl));go_wp2;go_ret;exact⟨ag X.o.symm,hb⟩
  have HD:=qh (HD.o.trans (PU hlt));obtain⟨ae,ci,rfl,a4,⟨es,A2,c2,rfl,hE,Uc⟩,y⟩:=aB.at_ (aB.keep (λ _ _ h=>h.keep (hb.mono D)) HL.o.2.1 (hb.mono D)) hlt;obtain⟨a,T⟩:=af (d.ans.ch[k]);have nV:=qh (a8.o a (T▸ce hlt));rw[T] at hE y Uc HD;have ax:=qh hE;have aW:=qh hlt;obtain⟨e,he⟩:=af (a.must);rw[he] at hE ax HD nV;obtain⟨-,-,-,-,-,-,-⟩:=hE;rename_i P Q S O be;obtain⟨ds,o⟩:∃ ds:List Value,ai e P Q S O ++ [bX a.soft,bR A2 a.ph.length c2]=ds:=⟨_,rfl⟩;have IX:=PS (w:=wr) (ad:=ae.add (k*10)) (show ds.length=10 by subst o;rfl) (by subst o;exact y);have ab:=PT (w:=wr) (show ds.length=10 by subst o;rfl) (by subst o;simp[ck,ai]);obtain⟨b,zk,Z,U⟩:=box wr 144 ds.toArray;rw[<- zk] at ab;have C:=hb.trans (Z.mono hs);have z0:b.cell? ⟨wr.heap.size,0,none⟩=some (bL bN e.k):=by rw[U.cell 0];subst o;rfl
  have z1:b.cell? ⟨wr.heap.size,1,none⟩=some (bL bN e.op):=by rw[U.cell 1];subst o;rfl
  have z2:b.cell? ⟨wr.heap.size,2,none⟩=some (bO e.nm):=by rw[U.cell 2];subst o;rfl
  have z3:b.cell? ⟨wr.heap.size,3,none⟩=some (bL bN e.v.k):=by rw[U.cell 3];subst o;rfl
  have z4:b.cell? ⟨wr.heap.size,4,none⟩=some (bL bN e.v.n):=by rw[U.cell 4];subst o;rfl
  have z5:b.cell? ⟨wr.heap.size,5,none⟩=some (bO e.v.s):=by rw[U.cell 5];subst o;rfl
  have z6:b.cell? ⟨wr.heap.size,6,none⟩=some (bR P e.v.l.length Q):=by rw[U.cell 6];subst o;rfl
  have z7:b.cell? ⟨wr.heap.size,7,none⟩=some (bR S e.ar.length O):=by rw[U.cell 7];subst o;rfl
  have z9:b.cell? ⟨wr.heap.size,9,none⟩=some (bR A2 a.ph.length c2):=by rw[U.cell 9];subst o;rfl
  have M:=(kX.o b C).2.1;have bf:=Z.size;obtain⟨r,hr⟩:=af (dM (bT N K n (dA N K n)) 7 [e]);obtain⟨s,al⟩:=af (rM (bT N K n (dA N K n)) nl true a.ph);rw[hr,al] at HD;have bc:=qh Uc;have KS:=qh (show ∀ w',IY b w'->Calls Tryz.prog 112 #[bS (some ⟨F,0,none⟩),bR A2 a.ph.length c2,bL bN n,bX true] w' λ e j=>e = b0 (bL bN s)/\IY w' j from λ w' t =>
   al▸KP.o w' a.ph A2 c2 B0 (C.trans (t.mono C.size)) (bc.o.keep ((Z.mono (b4 D hs)).trans (t.mono (b4 D C.size)))) (b4 D (b4 C.size t.size)))
  obtain⟨I,hI⟩:=af (dA N K n);rw[hI] at hr;have aL:=qh (show ∀ w',IY b w'->Calls Tryz.prog 169 #[bS (some ⟨gb,0,none⟩),bL bN n] w' λ e j=>(∃ v,e = b0 v/\(∃ A c,v = bR A I.length c/\bU j j.heap.size A I/\((A=none/\c=0/\I = [])\/(∃ m,I = [m]))))/\IY w' j from λ w' t=>hI▸KI.o w' (C.trans (t.mono C.size)));have ar:=qh (show ∀ w' g Y c6,IY b w'->ah w' g 67 (BC e P Q S e.ar.length O)->bU w' w'.heap.size Y I->((Y=none/\c6=0/\I = [])\/(∃ m,I = [m]))->Calls Tryz.prog 117 #[bS (some ⟨F,0,none⟩),bR (some ⟨g,0,none⟩) 1 1,bL bN n,bR Y I.length c6] w' λ en j=>en = b0 (bL bN r)/\IY b j from λ w' g Y c6 t ay Wi z=>by
   have h:=KB.o w' [e] (some ⟨g,0,none⟩) 1 w'.heap.size I Y c6 (C.trans (t.mono C.size)) ⟨(show 1<=maxLen by decide),ai e P Q S O,⟨rfl,λ _=>⟨_,rfl,ay.lt,nI (cs:=ai e P Q S O) ay⟩⟩,λ i hi=>by
    obtain rfl:i=0:=by simpa using hi
    exact (ax.o.keep ((Z.mono (b4 D hs)).trans (t.mono (b4 D C.size)))).up (b4 D (b4 C.size t.size))⟩ (co _) (λ x hx=>by rw[List.mem_singleton] at hx;rw[hx];exact nV.o) Wi z
   rw[hr] at h;exact h.mono λ _ _ ⟨h1,h2⟩=>⟨h1,t.trans (h2.mono t.size)⟩)
  have G:=Below.refl b.heap.size b;have Dq:=qh (show ∀ w',IY b w'->w'.cell? ⟨F,0,none⟩=some (bS (some ⟨gb,0,none⟩))/\w'.cell? ⟨wr.heap.size,0,none⟩=some (bL bN e.k)/\w'.cell? ⟨wr.heap.size,1,none⟩=some (bL bN e.op)/\w'.cell? ⟨wr.heap.size,2,none⟩=some (bO e.nm)/\w'.cell? ⟨wr.heap.size,3,none⟩=some (bL bN e.v.k)/\w'.cell? ⟨wr.heap.size,4,none⟩=some (bL bN e.v.n)/\w'.cell? ⟨wr.heap.size,5,none⟩=some (bO e.v.s)/\w'.cell? ⟨wr.heap.size,6,none⟩=some (bR P e.v.l.length Q)/\w'.cell? ⟨wr.heap.size,7,none⟩=some (bR S e.ar.length O)/\IY b w' from λ w' t=>⟨Below.cell_of t M,Below.cell_of t z0,Below.cell_of t z1,Below.cell_of t z2,Below.cell_of t z3,Below.cell_of t z4,Below.cell_of t z5,Below.cell_of t z6,Below.cell_of t z7,t⟩);have bb:=qh z9;clear y T he o a4 Uc hr al hI zk U z9;go_upto_region 8 with (fail);clear IX ab;go_region_held3 (λ w'=>w'.cell? ⟨F,0,none⟩=some (bS (some ⟨gb,0,none⟩))/\w'.cell? ⟨wr.heap.size,0,none⟩=some (bL bN e.k)/\w'.cell? ⟨wr.heap.size,1,none⟩=some (bL bN e.op)/\w'.cell? ⟨wr.heap.size,2,none⟩=some (bO e.nm)/\w'.cell? ⟨wr.heap.size,3,none⟩=some (bL bN e.v.k)/\w'.cell? ⟨wr.heap.size,4,none⟩=some (bL bN e.v.n)/\w'.cell? ⟨wr.heap.size,5,none⟩=some (bO e.v.s)/\w'.cell? ⟨wr.heap.size,6,none⟩=some (bR P e.v.l.length Q)/\w'.cell? ⟨wr.heap.size,7,none⟩=some (bR S e.ar.length O)/\IY b w')
   (first | exact Dq.o _ G | exact Dq.o _ G.drew | exact Dq.o _ (G.trans (az b _)).drew | exact Dq.o _ u | exact Dq.o _ u.drew | exact Dq.o _ (u.trans ((az w6 _).mono u.size)) | exact Dq.o _ H)
   (first
    | (go_at_call 169;(with_reducible refine (aL.o _ G.drew).mono ?_);rintro e6 w6 ⟨⟨v6,rfl,Y,c6,rfl,Wi,z⟩,E⟩;have u:=G.drew.trans E;have J:=qh (b9 Wi z);clear Wi z E)
    | (go_at_call 169;(with_reducible refine (aL.o _ (az b _).drew).mono ?_);rintro e6 w6 ⟨⟨v6,rfl,Y,c6,rfl,Wi,z⟩,E⟩;have u:=(az b _).drew.trans (E.mono (az b _).size);have J:=qh (b9 Wi z);have a0:=qh (show ah w6 b.heap.size 67 (BC e P Q S e.ar.length O) from (show ah (b.alloc _).drew b.heap.size 67 (BC e P Q S e.ar.length O) from ah.new b _ _).below E (ah.new b 67 (BC e P Q S e.ar.length O)).lt);clear Wi z E)
    | (go_at_call 117;(with_reducible refine (ar.o _ _ Y c6 u a0.o J.o.1 J.o.2).mono ?_);rintro e7 w7 ⟨rfl,H⟩)
    | (go_at_call 117;(with_reducible refine (ar.o _ _ Y c6 (u.trans ((az w6 _).mono u.size)) (ah.new w6 _ _) ((J.o.1.keep (az w6 _)).QN (λ _ _ h=>h.up (az w6 _).size) (az w6 _).size) J.o.2).mono ?_);rintro e7 w7 ⟨rfl,H⟩))
  all_goals
   have KU:=C.trans (H.mono C.size);by_cases h0:r=0
   case neg =>
    have X:=qh (HD.o.trans (if_pos h0));obtain⟨g0,am⟩:=fU h0;clear h0;go_wp2;go_ret;exact⟨ag X.o.symm,KU⟩
   have av:=qh (HD.o.trans (if_neg (λ h=>h h0)));obtain⟨g0,am⟩:=jk h0;have z9:=Below.cell_of H bb.o;clear h0;by_cases h1:s=0
   case' pos =>
    have X:=qh (av.o.trans (if_neg (λ h=>h h1)));obtain⟨g1,a9⟩:=jk h1
   case' neg =>
    have X:=qh (av.o.trans (if_pos h1));obtain⟨g1,a9⟩:=fU h1
   all_goals
    clear h1;go_wp2_with (go_at_call 112;(with_reducible refine (KS.o _ H).mono ?_);rintro e8 w8 ⟨rfl,a3⟩;have aE:=KU.trans (a3.mono KU.size))
    first
     | (go_ret
        exact⟨ag X.o.symm,aE⟩)
     | (go_roundw
        case rel=>exact⟨k+1,by go_num,aW.o,X,aE⟩
        case measure =>
         have:=aW.o;simp[intOf];omega)
end Go.Proofs.YtcnagconagpkcaaGreatDoor
