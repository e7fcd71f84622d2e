/- Lemmas. -/
import Derived.Test.YtcnagconagpkcaaGreatDoorZ19
open Go.Value renaming int->bL, string->bO, slice->bR, pointer->bS, bool->bX, oneCell'->ck
open Go.IntKind renaming i64->bN
open Go.Ending renaming returned->b0
open Nat renaming le_trans->b4, zero_le->ca, lt_of_lt_of_le->cj, le_refl->co
open And renaming intro->b9
open List renaming drop_length->cb, take_succ_eq_append_getElem->cc, getElem_mem->ce, drop_eq_getElem_cons->cf, all_eq_true->cp, length_take->cq, any_append->cr, any_eq_true->ct, eq_nil_of_length_eq_zero->cu
namespace Go.Proofs.YtcnagconagpkcaaGreatDoor
open Go.RowKit
attribute [local go_sem ↓] Go.wp_at_zero Go.wp_at_succ
attribute [local go_sem ↓] ld_item st_item ld_node st_node ld_ans st_ans ld_part st_part ld_rule st_rule ld_form st_form
set_option maxHeartbeats 4000000
set_option maxRecDepth 100000
def Kz (c:UInt8):Bool:=bu c.toNat 32 126
theorem VO {s:ByteArray} {k:Nat} (h:k<s.size) (a:(s.data.toList.take k).any Kz=false):(s.data.toList.take (k+1)).any Kz=Kz s[k]:=by
 have b:k<s.data.toList.length:=h;rw[cc b,cr,a];simp;rfl
theorem Zv {s:ByteArray} {k:Nat} (h:k<s.size) (a:Kz s[k]=true):s.data.toList.any Kz=true:=by
 have b:k<s.data.toList.length:=h;exact ct.2 ⟨s.data.toList[k],ce b,a⟩
noncomputable def acn (F:Ex->Int × Int) (pipes:Bool) (s:ByteArray) (rest:Int):Int:=if 300<s.size then 2 else if s.data.toList.any Kz=true then 1 else
  match vW s with
  | none=>10
  | some es=>if rq F pipes es≠0 then rq F pipes es else rest
theorem Zw {F:Ex->Int × Int} {a:Bool} {l:List ByteArray} {k:Nat} (h:k<l.length):Nc F a (l.drop k)=acn F a l[k] (Nc F a (l.drop (k+1))):=by
 rw[cf h,Nc];unfold acn;cases vW l[k] <;> rfl
theorem Zx {w:World} {ad:Addr} {cs:List Value} (a:cs.length=10) (b:∀ j u,cs[j]?=some u->w.cell? (ad.add j)=some u):(qG 266 (bS (some ad))).run Tryz.prog w = .ok (.agg cs.toArray) w:=
 gu Tryz.underlying266 rfl (by rw[a];kernel_rfl) b
theorem Zy {w:World} {cs:List Value} (a:cs.length=10) (b:∀ v∈cs,v.oneCell'=true):(Hy 266 (bS (some ⟨w.heap.size,0,none⟩)) (.agg cs.toArray)).run Tryz.prog (w.alloc (.cells #[bO ⟨#[]⟩,bX false,bL bN 0,bL bN 0,bO ⟨#[]⟩,bL bN 0,bL bN 0,bO ⟨#[]⟩,bR none 0 0,bR none 0 0] 266 (0,0))) = .ok () (w.alloc (.cells cs.toArray 266 (0,0))):=
 lI (by rw[show cs.toArray.size=10 from a];kernel_rfl) (show 10=cs.toArray.size from a.symm) (by rw[<- Array.all_toList];exact cp.2 b)
theorem zf {w:World} {B0 T m1 m2 m3:Nat} {x:ku} {f:aG} {N:List ah} {K:aV} (h:aJ w B0 T m1 m2 m3 x f N K) {Q:Nat} (J:w.cell? ⟨Q,0,none⟩=some (bS (some ⟨T,0,none⟩))) (aR:Q<w.heap.size) (hN:eH N) {p:List ByteArray} {A:Option Addr} {c B:Nat} {n:Int} {a:Bool} {F:Ex->Int × Int} (hp:nP w B A c p) (hB:B<=w.heap.size) (hF:a=true->∃ m:Nat,n=m/\m<N.length/\F=bU N K m (cZ N K m)) (S:Tab w) (a4:Mx w) :
  CS 112 #[bS (some ⟨Q,0,none⟩),bR A p.length c,bL bN n,bX a] w (bL bN (rZ F f.aA.length a p)):=by
 have bq:=hp.2.2.1;have bk:=h.form.la.2.2.1;unfold maxLen at bq bk;have g2:w.cell? ⟨T,2,none⟩=some (bR x.AL f.aA.length x.cl):=h.blk.cell 2;have lg:=qh (b9 h (b9 J (b9 aR hN)));have aw:=qh hp;have bl:=qh hF;have o8:=qh (λ w' (C:EG w w')=>b9 (aF S C) (a4.below C));obtain⟨R,hR⟩:=af (rZ F f.aA.length a p);have HR:=qh (hR.symm.trans (rZ.eq_def F f.aA.length a p));rw[hR];clear h hp hF S a4 hR;by_cases h0:p.length=0
 .obtain rfl:p = []:=List.length_eq_zero_iff.1 h0;have o:=qh (show R=0 from HR.o.trans (if_neg (λ h=>absurd h.1 (by decide))));clear h0;go_enter Tryz.func112,Tryz.ntmps112;go_wp2;go_loopw [37] (λ i wr=>i = bL bN 0/\wr=w) (λ _ _=>1)
  case atStart=>exact⟨rfl,rfl⟩
  case round =>
   obtain⟨rfl,rfl⟩:=hrel;go_wp2;go_ret;exact⟨ai o.o.symm,Below.refl _ _⟩
 have bb:0<(p.length:Int):=by omega
 by_cases hne:p.length≠f.aA.length
 .have o:=qh (HR.o.trans (if_pos ⟨by omega,hne⟩));have bs:((p.length:Int) != (f.aA.length:Int))=true:=bne_iff_ne.2 (by omega);clear hne h0;go_enter Tryz.func112,Tryz.ntmps112;go_wp2;go_ret;exact⟨ai o.o.symm,Below.refl _ _⟩
 have bo:=qh (HR.o.trans (if_neg (λ h=>hne h.2)));have bs:((p.length:Int) != (f.aA.length:Int))=false:=bne_eq_false_iff_eq.2 (by omega);clear hne h0;go_enter Tryz.func112,Tryz.ntmps112;go_upto_region 3 with (fail)
 all_goals
  clear HR bb g2 J;go_wp2;go_loopw [37] (λ i wr=>∃ k:Nat,i = bL bN k/\k<=p.length/\Hid (R=Nc F a (p.drop k))/\EG w wr) (λ i _=>p.length+1 - (intOf i).toNat)
  case atStart=>exact⟨0,rfl,ca _,bo,Below.refl _ _⟩
  case round =>
   obtain⟨k,rfl,hk,V,C⟩:=hrel;have hs:=C.size;by_cases hlt:k<p.length
   .obtain⟨ab,ao,rfl,bh,av⟩:=Reads.plain (aw.o.1.below (C.mono hB)) (by omega);have qx:wr.cell? ⟨ab,ao+k,none⟩=some (bO p[k]):=av k _ (by simp[iZ,hlt]);have ba:=aw.o.2.2.2 p[k] (ce hlt);have V:=qh (V.o.trans (Zw hlt));obtain⟨s,ae⟩:=af (p[k]);obtain⟨rr,U⟩:=af (Nc F a (p.drop (k+1)));have bt:=qh U;rw[ae,U] at V;rw[ae] at qx ba;have aX:=qh hlt;have bA:ab<wr.heap.size:=cj bh (b4 hB hs);clear ae U av;by_cases h3:300<s.size
    .have o:=qh (show R=2 from V.o.trans (by unfold acn;rw[if_pos h3]));have bm:(300:Int)<(s.size:Nat):=by omega
     go_wp2;go_ret;exact⟨ai o.o.symm,C⟩
    have an:=qh (show R=_ from V.o.trans (by unfold acn;rw[if_neg h3]));have bm:¬ (300:Int)<(s.size:Nat):=by omega
    clear V;go_wp2;go_loopw [11] (λ i w2=>∃ m:Nat,i = bL bN m/\m<=s.size/\w2=wr/\Hid ((s.data.toList.take m).any Kz=false)) (λ i _=>s.size+1 - (intOf i).toNat)
    case atStart=>exact⟨0,rfl,ca _,rfl,qh rfl⟩
    case round =>
     obtain⟨m,rfl,hm,rfl,HC⟩:=hrel;by_cases hml:m<s.size
     .obtain⟨ch,be⟩:=af (s[m]);have ar:=qh (VO hml HC.o);have ap:=qh (Zv hml);rw[be] at ar ap;have aM:=qh hml;obtain⟨x1,Y⟩:=af (Kz ch);have K1:=qh (show ∀ w,Calls Tryz.prog 30 #[bL bN (ch.toNat:Nat),bL bN 32,bL bN 126] w λ e w'=>e = b0 (bX x1)/\w=w' from λ w=>Y▸kH (ch.toNat:Nat) 32 126 w);rw[Y] at ar ap;clear Y;have bE:wrap64 ((ch.toNat:Nat):Int)=((ch.toNat:Nat):Int):=IntWalk.wrap64_in _ (by have:=ch.toNat_lt;omega);cases x1
      .go_wp2_with (go_at_call 30;(with_reducible refine (K1.o _).mono ?_);rintro e1 w1 ⟨rfl,rfl⟩);go_roundw
       case rel=>exact⟨m+1,by go_num,aM.o,by first | rfl | trivial,ar⟩
       case measure =>
        have:=aM.o
        first | (simp[intOf];done) | (simp[intOf];omega)
      .have o:=qh (show R=1 from an.o.trans (if_pos (ap.o rfl)));go_wp2_with (go_at_call 30;(with_reducible refine (K1.o _).mono ?_);rintro e1 w1 ⟨rfl,rfl⟩);go_ret;exact⟨ai o.o.symm,C⟩
     .have e:m=s.size:=by omega
      subst e;have HA:=qh (show s.data.toList.any Kz=false by have h:=HC.o;rwa [List.take_of_length_le (by simp)] at h);have O:=qh (show R=_ from an.o.trans (if_neg (by rw[HA.o];decide)));clear an;obtain⟨PF,al⟩:=af (vW s);have KP:=qh (al▸VN s _ (by omega) (o8.o _ C).1 (o8.o _ C).2);rw[al] at O;clear al;have a5:=C.size;cases PF with
      | none =>
       have o:=qh (show R=10 from O.o);go_wp2_with (go_at_call 168;(with_reducible refine KP.o.mono ?_);rintro e5 w5 ⟨rfl,d⟩);go_ret;exact⟨ai o.o.symm,C.trans (d.mono a5)⟩
      | some es =>
       have ax:=qh (show R=if rq F a es≠0 then rq F a es else rr from O.o);go_wp2_with (go_at_call 168;(with_reducible refine KP.o.mono ?_);rintro e5 w5 ⟨⟨A9,l,c9,rfl,Z,a0,a1⟩,d⟩);have d:=C.trans (d.mono a5);have WI:=Z.1;unfold maxLen at WI;have aD:=qh (b9 Z a1);have bi:=qh (show R=if rq F a (bM l)≠0 then rq F a (bM l) else rr from a0.symm▸ax.o);clear Z a0 a1 ax O KP;go_loopw [64] (λ i w3=>∃ q:Nat,i = bL bN q/\q<=l.length/\Hid (R=if rq F a (bM (l.drop q))≠0 then rq F a (bM (l.drop q)) else rr)/\EG w5 w3) (λ i _=>l.length+1 - (intOf i).toNat)
       case atStart=>exact⟨0,rfl,ca _,bi,Below.refl _ _⟩
       case round =>
        obtain⟨q,rfl,g,HQ,jl⟩:=hrel;by_cases hql:q<l.length
        .obtain⟨ad,ci,rfl,br,a3,E⟩:=au.at_ (au.keep (P:=Q7) (λ _ _ ⟨t,es,e,h⟩=>⟨t,es,e,h.keep jl⟩) aD.o.1 jl) hql;obtain⟨⟨pi,X⟩,M⟩:∃ z,l[q]=z:=⟨_,rfl⟩;have bp:=qh (show X.parts<=300 by have:=aD.o.2 l[q] (ce hql);rw[M] at this;exact this);have aL:=qh (show (pi=false->bM (l.drop q)=bM (l.drop (q+1)))/\(pi=true->bM (l.drop q)=X :: bM (l.drop (q+1))) by
          rw[cf hql,M];exact⟨λ h=>by subst h;rfl,λ h=>by subst h;rfl⟩)
         rw[M] at a3;obtain⟨t,bB,rfl,hE⟩:=a3;have a7:=qh hE;obtain⟨-,-,-,-,-,-,-⟩:=hE;rename_i A3 c3 A4 c4 bK;obtain⟨cs,b⟩:∃ cs:List Value,[bO t,bX pi,bL bN X.k,bL bN X.op,bO X.nm,bL bN X.v.k,bL bN X.v.n,bO X.v.s,bR A3 X.v.l.length c3,bR A4 X.ar.length c4]=cs:=⟨_,rfl⟩;have ac:cs.length=10:=by subst b;rfl
         have NC:=Zx (w:=wr) ac (ad:=ad.add (q*10)) (λ j u hu=>E j u (by subst b;exact hu));have a6:=Zy (w:=wr) ac (by subst b;simp[ck]);obtain⟨W,hW⟩:=aH (wr.alloc (.cells cs.toArray 266 (0,0)));have lJ:EG wr W:=hW▸aB wr _;have D:ag W wr.heap.size 266 cs.toArray:=hW▸ag.new wr _ _;have q0:W.cell? ⟨wr.heap.size,0,none⟩=some (bO t):=by rw[D.cell 0];subst b;rfl
         have q1:W.cell? ⟨wr.heap.size,1,none⟩=some (bX pi):=by rw[D.cell 1];subst b;rfl
         have y:EG w5 W:=jl.trans (lJ.mono jl.size);have L:=qh hql;clear E br M;go_upto_region 19 with (fail);rw[<- hW];clear NC a6 hW;cases pi
         .have o:=qh (show R=if rq F a (bM (l.drop (q+1)))≠0 then rq F a (bM (l.drop (q+1))) else rr from (aL.o.1 rfl)▸HQ.o);go_wp2;go_roundw
          case rel=>exact⟨q+1,by go_num,L.o,o,y⟩
          case measure =>
           have:=L.o
           first | (simp[intOf];done) | (simp[intOf];omega)
         have aq:=qh (show R=if rq F a (X :: bM (l.drop (q+1)))≠0 then rq F a (X :: bM (l.drop (q+1))) else rr from (aL.o.2 rfl)▸HQ.o);cases a
         .have o:=qh (show R=10 from aq.o.trans (by simp[rq]));go_wp2;go_ret;exact⟨ai o.o.symm,d.trans (y.mono d.size)⟩
         obtain⟨m,rfl,hm,aA⟩:=bl.o rfl;have aE:=d.trans (y.mono d.size);have a2:=a7.o;have Xq:=qh (show ∀ w',EG W w'->aJ w' B0 T m1 m2 m3 x f N K/\w'.cell? ⟨Q,0,none⟩=some (bS (some ⟨T,0,none⟩))/\Q<w'.heap.size/\Tab w'/\Mx w'/\aQ w' w5.heap.size X (az X A3 c3 A4 c4) from λ w' g=>by
          have H:=aE.trans (g.mono aE.size);exact⟨lg.o.1.keep H,Below.cell_of H lg.o.2.1,cj aR H.size,(o8.o _ H).1,(o8.o _ H).2,a2.keep (lJ.mono jl.size |>.trans (g.mono y.size))⟩)
         obtain⟨I,hI⟩:=af (cZ N K m);have KI:=qh (show ∀ w',EG W w'->Calls Tryz.prog 169 #[bS (some ⟨T,0,none⟩),bL bN m] w' λ e G=>(∃ v,e = b0 v/\(∃ A c,v = bR A (I).length c/\fJ G G.heap.size A (I)/\((A=none/\c=0/\I = [])\/(∃ m,I = [m]))))/\EG W G from λ w' g=>hI▸(FM (Xq.o w' g).1 m hm).mono λ _ _ ⟨h1,h2⟩=>⟨h1,g.trans (h2.mono g.size)⟩);obtain⟨r,hr⟩:=af (F X);have KT:=qh (show ∀ w' A6 c6,EG W w'->fJ w' w'.heap.size A6 I->((A6=none/\c6=0/\I = [])\/(∃ m,I = [m]))->Calls Tryz.prog 120 #[bS (some ⟨Q,0,none⟩),.agg (BC X A3 c3 A4 X.ar.length c4),bL bN m,bR A6 I.length c6] w' λ en G=>en = b0 (.tuple #[bL bN r.1,bL bN r.2])/\EG W G from λ w' A6 c6 g h1 h2=>by
          have h:=Xq.o w' g;rw[<- hr,aA,hI];exact (xJ h.1 h.2.1 h.2.2.1 lg.o.2.2.2 h1 h2 h.2.2.2.2.2 (b4 y.size g.size) hm (by have:=bp.o;omega) h.2.2.2.1 h.2.2.2.2.1).mono λ _ _ ⟨h3,h4⟩=>⟨h3,g.trans (h4.mono g.size)⟩)
         have uJ:=qh (show rq F true (X :: bM (l.drop (q+1)))=if r.2≠0 then r.2 else rq F true (bM (l.drop (q+1))) by rw[rq,if_neg (by decide),hr]);have J:=(Xq.o W (Below.refl _ _)).2.1;have bj:W.cell? ⟨wr.heap.size,2,none⟩=some (bL bN X.k):=by rw[D.cell 2];subst b;rfl
         have bd:W.cell? ⟨wr.heap.size,3,none⟩=some (bL bN X.op):=by rw[D.cell 3];subst b;rfl
         have bx:W.cell? ⟨wr.heap.size,4,none⟩=some (bO X.nm):=by rw[D.cell 4];subst b;rfl
         have bg:W.cell? ⟨wr.heap.size,5,none⟩=some (bL bN X.v.k):=by rw[D.cell 5];subst b;rfl
         have a9:W.cell? ⟨wr.heap.size,6,none⟩=some (bL bN X.v.n):=by rw[D.cell 6];subst b;rfl
         have a8:W.cell? ⟨wr.heap.size,7,none⟩=some (bO X.v.s):=by rw[D.cell 7];subst b;rfl
         have bc:W.cell? ⟨wr.heap.size,8,none⟩=some (bR A3 X.v.l.length c3):=by rw[D.cell 8];subst b;rfl
         have bw:W.cell? ⟨wr.heap.size,9,none⟩=some (bR A4 X.ar.length c4):=by rw[D.cell 9];subst b;rfl
         have am:=Below.refl W.heap.size W;have FK:=qh (show ∀ w',EG W w'->w'.cell? ⟨Q,0,none⟩=some (bS (some ⟨T,0,none⟩))/\w'.cell? ⟨wr.heap.size,2,none⟩=some (bL bN X.k)/\w'.cell? ⟨wr.heap.size,3,none⟩=some (bL bN X.op)/\w'.cell? ⟨wr.heap.size,4,none⟩=some (bO X.nm)/\w'.cell? ⟨wr.heap.size,5,none⟩=some (bL bN X.v.k)/\w'.cell? ⟨wr.heap.size,6,none⟩=some (bL bN X.v.n)/\w'.cell? ⟨wr.heap.size,7,none⟩=some (bO X.v.s)/\w'.cell? ⟨wr.heap.size,8,none⟩=some (bR A3 X.v.l.length c3)/\w'.cell? ⟨wr.heap.size,9,none⟩=some (bR A4 X.ar.length c4)/\EG W w' from λ w' g=>⟨Below.cell_of g J,Below.cell_of g bj,Below.cell_of g bd,Below.cell_of g bx,Below.cell_of g bg,Below.cell_of g a9,Below.cell_of g a8,Below.cell_of g bc,Below.cell_of g bw,g⟩);clear b ac D a2 aA hI hr;go_upto_region 22 with (fail);go_region_held3 (λ w'=>w'.cell? ⟨Q,0,none⟩=some (bS (some ⟨T,0,none⟩))/\w'.cell? ⟨wr.heap.size,2,none⟩=some (bL bN X.k)/\w'.cell? ⟨wr.heap.size,3,none⟩=some (bL bN X.op)/\w'.cell? ⟨wr.heap.size,4,none⟩=some (bO X.nm)/\w'.cell? ⟨wr.heap.size,5,none⟩=some (bL bN X.v.k)/\w'.cell? ⟨wr.heap.size,6,none⟩=some (bL bN X.v.n)/\w'.cell? ⟨wr.heap.size,7,none⟩=some (bO X.v.s)/\w'.cell? ⟨wr.heap.size,8,none⟩=some (bR A3 X.v.l.length c3)/\w'.cell? ⟨wr.heap.size,9,none⟩=some (bR A4 X.ar.length c4)/\EG W w')
          (first | exact FK.o _ am | exact FK.o _ am.drew | exact FK.o _ ak | exact FK.o _ ak.drew | exact FK.o _ aa)
          (first
           | (go_at_call 169;(with_reducible refine (KI.o _ am.drew).mono ?_);rintro e6 w6 ⟨⟨v6,rfl,A6,c6,rfl,VP,ay⟩,ak⟩;have aZ:=qh (b9 VP ay);clear VP ay)
           | (go_at_call 120;(with_reducible refine (KT.o _ A6 c6 ak aZ.o.1 aZ.o.2).mono ?_);rintro e7 w7 ⟨rfl,aa⟩))
         all_goals
          have Zz:=d.trans ((y.trans (aa.mono y.size)).mono d.size);have bv:=y.trans (aa.mono y.size);by_cases hr0:r.2=0
          .have o:=qh (show R=if rq F true (bM (l.drop (q+1)))≠0 then rq F true (bM (l.drop (q+1))) else rr from (uJ.o.trans (if_neg (λ h=>h hr0)))▸aq.o);obtain⟨g0,bf⟩:=jf hr0;clear hr0;go_wp2;go_roundw
           case rel=>exact⟨q+1,by go_num,L.o,o,bv⟩
           case measure =>
            have:=L.o
            first | (simp[intOf];done) | (simp[intOf];omega)
          .have o:=qh (show R=r.2 from aq.o.trans (by rw[uJ.o,if_pos hr0,if_pos hr0]));obtain⟨g0,bf⟩:=gp hr0;clear hr0;go_wp2;go_ret;exact⟨ai o.o.symm,Zz⟩
        .have e:q=l.length:=by omega
         subst e;have o:=qh (show R=rr from HQ.o.trans (by rw[cb];rfl));have bn:=qh (show R=Nc F a (p.drop (k+1)) from o.o.trans bt.o.symm);go_wp2;go_roundw
         case rel=>exact⟨k+1,by go_num,aX.o,bn,d.trans (jl.mono d.size)⟩
         case measure =>
          have:=aX.o
          first | (simp[intOf];done) | (simp[intOf];omega)
   .have e:k=p.length:=by omega
    subst e;have o:=qh (show R=0 from V.o.trans (by rw[cb];rfl));go_wp2;go_ret;exact⟨ai o.o.symm,C⟩
end Go.Proofs.YtcnagconagpkcaaGreatDoor
namespace Go.Proofs.YtcnagconagpkcaaGreatDoor
open Go.RowKit
structure kU (w:World) (b:Nat) (l:List Int):Prop where
 ex:∃ D,w.ownsMap Tryz.prog 3 R0 b l.length D/\Maps.IsMap D/\∀ (s:Int) zd,D.atKey (.int .i64 s) zd=if s∈l then .held (.bool true) else zd
theorem ah8 {s:Int} (h:1<=s/\s<=999):keyOf Tryz.prog 3 (.int .i64 s)=some (.int .i64 s):=Maps.keyOf_int_mk Tryz.underlying3 (by simp only[Lit.wf,Bool.and_eq_true,decide_eq_true_eq];rw[show IntKind.i64.min = -9223372036854775808 by rfl,show IntKind.i64.max=9223372036854775807 by rfl];omega)
theorem kU.made (w:World):kU (w.alloc (.map #[] 0)) w.heap.size []:=⟨⟨.map [],World.ownsMap_made w _ _ _,Maps.isMap_empty,λ _ _=>rfl⟩⟩
theorem kU.lt {w:World} {b:Nat} {l:List Int} (h:kU w b l):b<w.heap.size:=h.ex.choose_spec.1.lt
theorem kU.below {w w':World} {b:Nat} {l:List Int} (h:kU w b l) (d:EG w w'):kU w' b l:=by
 have c:=h.lt;obtain⟨D,⟨j,a,g,f⟩,i,e⟩:=h.ex;exact⟨⟨D,⟨j,a,(d.block b c).trans g,f⟩,i,e⟩⟩
theorem kU.get {w:World} {b:Nat} {l:List Int} (h:kU w b l) {s:Int} (g:1<=s/\s<=999) :
  (Instr.lookup 205 (.map (some b)) (bL bN s) false).run Tryz.prog w = .ok (bX (decide (s∈l))) w:=by
 obtain⟨D,i,j,e⟩:=h.ex;obtain⟨v,ps,c,d⟩:=i.lookup (Maps.int_keyed Tryz.underlying3) Tryz.underlying205 (by kernel_rfl:(zeroValue 4).run Tryz.prog w = .ok (.bool false) w) (zd:=.held (.bool false)) (zp:=[]) rfl (ah8 g);rw[c];have f:=e s (.held (.bool false));have a:(DataW.held v:DataW Value)=D.atKey (.int .i64 s) (.held (.bool false)):=by
  unfold R0 at d;exact (Prod.mk.inj (Option.some.inj d)).1
 rw[f] at a;by_cases hm:s∈l
 .rw[if_pos hm] at a;rw[DataW.held.inj a,decide_eq_true hm]
 .rw[if_neg hm] at a;rw[DataW.held.inj a,decide_eq_false hm]
theorem Ai {w:World} {d:Array Oper} {c:List Oper} {o:Oper} {a:Act} {Q:Exit->Act->World->Prop} (z:o.guard=none) (m x v:Operand) (g:o.op=Op.mapUpdate 205 m x v)
  {b:Nat} {l:List Int} {s:Int} (A:a.eval m = .map (some b)) (f:kU w b l) (k:l.length<maxLen) (q:a.eval x = bL bN s) (j:a.eval v = bX true) (y:1<=s/\s<=999)
  (n:∀ w',kU w' b (l ++ [s])->w.grownBy w' (some b)->wpList Tryz.prog d Q c (a.put o.dst undef) w') :
  wpList Tryz.prog d Q (o :: c) a w:=by
 obtain⟨D,B,i,r⟩:=f.ex;refine wpList_mapUpdate_own w z m x v _ g 3 4 (Maps.int_keyed Tryz.underlying3) Tryz.underlying205 R0 b l.length D A B k (.int .i64 s) (.bool true) (.int .i64 s) q j (ah8 y) (.held (.bool true)) [] rfl
  (λ w' u p=>n w' ⟨⟨_,by rw[List.length_append];exact u,i.put _ _,λ t zd=>?_⟩⟩ p)
 by_cases h:s=t
 .subst h;rw[Maps.atKey_put_same i (show WideAt.IsKeyLit (.int _ _) from trivial),if_pos (by simp)]
 .rw[Maps.atKey_put_other (λ e=>h (by injection e with _ e;exact e.symm)),r t zd];simp[show ¬ t=s from λ e=>h e.symm]
end Go.Proofs.YtcnagconagpkcaaGreatDoor
namespace Go.Proofs.YtcnagconagpkcaaGreatDoor
open Go.RowKit
attribute [local go_sem ↓] Go.wp_at_zero Go.wp_at_succ
set_option maxHeartbeats 4000000
set_option maxRecDepth 100000
theorem box (w:World) (T:TypeId) (cs:Array Value):∃ W,W=w.alloc (.cells cs T (0,0))/\EG w W/\ag W w.heap.size T cs:=⟨_,rfl,aB w _,ag.new w _ _⟩
theorem Rf {a:Nat} {l:List aW} {k:Nat} (h:k<l.length):vY a (l.take k) (l.drop k)=if bz l[k].nm.data.toList=false then 5 else if (l.take k).any (λ p=>decide (p.nm=l[k].nm)) then 6 else if bu l[k].os.length 1 40=true then 2 else
  if vX a [] l[k].os≠0 then vX a [] l[k].os else vY a (l.take (k+1)) (l.drop (k+1)):=by
 rw[cf h,vY,cc h]
theorem VQ {a:Nat} {l:List qg} {k:Nat} (h:k<l.length):vX a (l.take k) (l.drop k)=if bu l[k].code 1 999=true then 1 else if (l.take k).any (λ p=>decide (p.code=l[k].code)) then 6 else
  if rZ (λ _=>(0,0)) a false l[k].ph≠0 then rZ (λ _=>(0,0)) a false l[k].ph else vX a (l.take (k+1)) (l.drop (k+1)):=by
 rw[cf h,vX,cc h]
def TD (kv:List (ByteArray × Value)) (l:List aW):Prop:=kv.length<=l.length/\∀ s,gz kv s=if l.any (λ d=>decide (d.nm=s))=true then some (bX true) else none
theorem TD.add {a:List (ByteArray × Value)} {l:List aW} {k:Nat} (h:TD a (l.take k)) (b:k<l.length):TD ((l[k].nm,bX true) :: a) (l.take (k+1)):=by
 refine⟨by have:=h.1;simp at this ⊢;omega,λ s=>?_⟩;rw[cc b,cr,gz];by_cases e:l[k].nm=s
 .simp[e]
 .simp only[e,if_false,List.any_cons,decide_false,List.any_nil,Bool.or_false];exact h.2 s
theorem VR {l:List qg} {c:Int}:decide (c∈l.map qg.code)=l.any (λ p=>decide (p.code=c)):=by
 rw[Bool.eq_iff_iff,decide_eq_true_iff,ct,List.mem_map];exact⟨λ ⟨p,a,b⟩=>⟨p,a,by simpa using b⟩,λ ⟨p,a,b⟩=>⟨p,a,by simpa using b⟩⟩
theorem Rh {w:World} {B0 gb m1 m2 m3:Nat} {x:ku} {f:aG} {N:List ah} {K:aV} (h:aJ w B0 gb m1 m2 m3 x f N K) {cg:Nat} (am:w.cell? ⟨cg,0,none⟩=some (bS (some ⟨gb,0,none⟩))) (bc:cg<w.heap.size) (hN:eH N) (P:Tab w) (a1:Mx w) :
  CS 72 #[bS (some ⟨cg,0,none⟩)] w (bL bN (kG f)):=by
 have z:=h.le;have c3:w.cell? ⟨gb,3,none⟩=some (bR x.AS f.lists.length x.cs):=h.blk.cell 3;have HL:=qh (b9 h.form.ls h.form.li);have aA:=qh (show ∀ w' p A c B,EG w w'->nP w' B A c p->B<=w'.heap.size->Calls Tryz.prog 112 #[bS (some ⟨cg,0,none⟩),bR A p.length c,bL bN (-1),bX false] w' λ e be=>e = b0 (bL bN (rZ (λ _=>(0,0)) f.aA.length false p))/\EG w' be from
  λ w' p A c B v hp z=>zf (h.keep v) (Below.cell_of v am) (cj bc v.size) hN hp z (λ h=>by cases h) (aF P v) (a1.below v))
 obtain⟨AS,al⟩:=af (x.AS);rw[al] at c3 HL;have bl:=h.blk.lt;obtain⟨cS,aq⟩:=af (x.cs);rw[aq] at c3 HL;have bj:=HL.o.2;have T:=qh (kG.eq_def f);obtain⟨R,hR⟩:=af (kG f);rw[hR] at T ⊢;obtain⟨nl,aL⟩:=af (f.aA.length);rw[aL] at T aA;obtain⟨L,hL⟩:=af (f.lists);rw[hL] at T HL c3 bj;clear h al aq hR aL hL P a1 hN;by_cases h60:60<L.length
 .have m:=qh (T.o.trans (if_pos h60));have a7:(60:Int)<L.length:=by omega
  go_enter Tryz.func72,Tryz.ntmps72;go_wp2;go_ret;exact⟨ai m.o.symm,Below.refl _ _⟩
 have T:=qh (T.o.trans (if_neg h60));have a7:¬ (60:Int)<L.length:=by omega
 have U:=@run_makeMap Tryz.prog;go_enter Tryz.func72,Tryz.ntmps72;go_wp2;have a6:=qh (aS.made w);clear c3 am U;go_loopw [30] (λ i wr=>∃ (k:Nat) (kv:List (ByteArray × Value)),i = bL bN k/\k<=L.length/\Hid (R=vY nl (L.take k) (L.drop k))/\Hid (aS wr w.heap.size kv/\TD kv (L.take k))/\EG w wr) (λ i _=>62 - (intOf i).toNat)
 case atStart=>exact⟨0,[],rfl,ca _,T,qh ⟨a6.o,by simp,λ s=>rfl⟩,aB w _⟩
 case round =>
  obtain⟨k,kv,rfl,hk,l,HM,v⟩:=hrel;have hs:=v.size;by_cases hlt:k<L.length
  case neg =>
   obtain rfl:k=L.length:=by omega
   have m:=qh (show R=0 from l.o.trans (by rw[cb];rfl));go_wp2;go_ret;exact⟨ai m.o.symm,v⟩
  have l:=qh (l.o.trans (Rf hlt));have ax:=qh (HM.o.2.add hlt);obtain⟨ad,ci,rfl,ac,⟨A,c,rfl,ak,bh,E⟩,a⟩:=au.at_ (au.keep (λ _ _ h=>h.keep (v.mono z)) HL.o.1 (v.mono z)) hlt;obtain⟨d,hd⟩:=af (L[k]);rw[hd] at a ak bh E l ax;have p0:wr.cell? (ad.add (k*2))=some (bO d.nm):=a 0 _ rfl;have p1:wr.cell? ⟨(ad.add (k*2)).block,(ad.add (k*2)).off+1,none⟩=some (bR A d.os.length c):=a 1 _ rfl;obtain⟨W,hW,lJ,BW⟩:=box wr 92 #[bO d.nm,bR A d.os.length c];have q0:=BW.cell 0;have q1:=BW.cell 1;have t:=v.trans (lJ.mono hs);have aX:=qh hlt;have ba:=qh ak;have bi:kv.length<maxLen:=by
   have:=HM.o.2.1;rw[cq] at this;unfold maxLen;omega
  have uq:=HM.o.1.lt;have Y:=HM.o.1.below lJ uq;clear a hd ac ak;go_upto_region 7 with (fail);rw[<- hW];clear p0 p1 hW;obtain⟨x1,S⟩:=af (bz d.nm.data.toList);have K1:=qh (S▸lS d.nm W E);rw[S] at l;clear S;cases x1
  case false =>
   have m:=qh (show R=5 by rw[l.o];simp);go_wp2_with (go_at_call 23;(with_reducible refine K1.o.mono ?_);rintro M J ⟨rfl,rfl⟩);go_ret;exact⟨ai m.o.symm,t⟩
  have l:=qh (l.o.trans (if_neg (by decide)));have hl:=Y.get Tryz.underlying204 (XY W) E;rw[HM.o.2.2 d.nm] at hl;obtain⟨x2,ay⟩:=af ((L.take k).any (λ p=>decide (p.nm=d.nm)));rw[ay] at hl l;clear ay;cases x2
  case true =>
   have m:=qh (l.o.trans (if_pos rfl));go_wp2_with (go_at_call 23;(with_reducible refine K1.o.mono ?_);rintro M J ⟨rfl,rfl⟩);go_ret;exact⟨ai m.o.symm,t⟩
  have l:=qh (l.o.trans (if_neg (by decide)));obtain⟨x3,D⟩:=af (bu d.os.length 1 40);have K3:=qh (D▸kH d.os.length 1 40 W);rw[D] at l;have a8:=qh D;clear D;cases x3
  case true =>
   have m:=qh (l.o.trans (if_pos rfl));go_wp2_with (first
    | (go_at_call 23;(with_reducible refine K1.o.mono ?_);rintro M J ⟨rfl,rfl⟩)
    | (go_at_call 30;(with_reducible refine K3.o.mono ?_);rintro M J ⟨rfl,rfl⟩))
   go_ret;exact⟨ai m.o.symm,t⟩
  have l:=qh (l.o.trans (if_neg (by decide)));have OL:=tJ a8.o;have U:=@run_makeMap Tryz.prog;go_upto_region 15 with (first
   | (go_at_call 23;(with_reducible refine K1.o.mono ?_);rintro M J ⟨rfl,rfl⟩)
   | (go_at_call 30;(with_reducible refine K3.o.mono ?_);rintro M J ⟨rfl,rfl⟩)
   | (at_mapUpdate;refine jk rfl _ _ _ 204 4 rfl Tryz.underlying204 rfl Y bi rfl rfl E ?_;intro y ab F;have ae:=BW.grown F (λ e=>by injection e;omega);have u:=t.grown F t.size (λ g hg=>by cases hg;exact co _)))
  have q:=u.size;have DT:=qh (aS.alloc ab (.map #[] 0));have a9:=qh (kU.made y);have bm:=u.trans ((aB y (.map #[] 0)).mono q);have q1:y.cell? ⟨wr.heap.size,1,none⟩=some (bR A d.os.length c):=ae.cell 1;have bn:=ae.lt;have O:=ab.lt;have a0:∀ {w6:World},EG y w6->Below B0 wr w6:=λ h=>((lJ.mono (b4 z hs)).grown F (b4 z t.size) (λ g hg=>by cases hg;exact z)).trans (h.mono (b4 z q));clear U hl q0 K1 K3 Y BW ab F;go_wp2;clear q1 ae;go_loopw [56] (λ i w6=>∃ j:Nat,i = bL bN j/\j<=d.os.length/\Hid (vX nl [] d.os=vX nl (d.os.take j) (d.os.drop j))/\Hid (kU w6 y.heap.size ((d.os.take j).map qg.code))/\EG y w6) (λ i _=>42 - (intOf i).toNat)
  case atStart=>exact⟨0,rfl,ca _,qh rfl,a9,aB y _⟩
  case round =>
   obtain⟨j,rfl,hj,b,HC,n⟩:=hrel;have aD:=u.trans (n.mono q);have aR:=n.size;by_cases hjl:j<d.os.length
   case neg =>
    obtain rfl:j=d.os.length:=by omega
    have b:=qh (show vX nl [] d.os=0 from b.o.trans (by rw[cb];rfl));have m:=qh (l.o.trans (if_neg (λ h=>h b.o)));have bd:=qh (show aS wr w.heap.size ((d.nm,bX true) :: kv) from (DT.o.same (by rw[Below.heap_alloc y _ _ O])).below n O);go_wp2;go_roundw
    case rel=>exact⟨k+1,_,by go_num,aX.o,m,qh ⟨bd.o,ax.o⟩,aD⟩
    case measure =>
     have:=aX.o;simp[intOf];omega
   have b:=qh (b.o.trans (VQ hjl));have HK:=qh (show (d.os.take (j+1)).map qg.code=(d.os.take j).map qg.code ++ [d.os[j].code] by rw[cc hjl,List.map_append];rfl);obtain⟨Q,ci,rfl,ac,⟨A2,c2,rfl,VS⟩,a⟩:=au.at_ (au.keep (λ _ _ h=>h.keep (a0 n)) ba.o (a0 n)) hjl;obtain⟨o,ho⟩:=af (d.os[j]);rw[ho] at a VS b HK;have p0:wr.cell? (Q.add (j*4))=some (bL bN o.code):=a 0 _ rfl;have p1:wr.cell? ⟨(Q.add (j*4)).block,(Q.add (j*4)).off+1,none⟩=some (bR A2 o.ph.length c2):=a 1 _ rfl;have p2:wr.cell? ⟨(Q.add (j*4)).block,(Q.add (j*4)).off+2,none⟩=some (bX o.al):=a 2 _ rfl;have p3:wr.cell? ⟨(Q.add (j*4)).block,(Q.add (j*4)).off+3,none⟩=some (bX o.la):=a 3 _ rfl;obtain⟨W2,ar,Fq,aE⟩:=box wr 95 #[bL bN o.code,bR A2 o.ph.length c2,bX o.al,bX o.la];have r0:=aE.cell 0;have H:=n.trans (Fq.mono aR);have I:=u.trans (H.mono q);have bk:=HC.o.lt;have an:=HC.o.below Fq;have a2:=qh hjl;have a3:((d.os.take j).map qg.code).length<maxLen:=by rw[List.length_map,cq];unfold maxLen;omega
   obtain⟨x4,C⟩:=af (bu o.code 1 999);have K4:=qh (C▸kH o.code 1 999 W2);rw[C] at b;have bf:=qh C;clear a ho ac C;go_upto_region 18 with (fail);rw[<- ar];clear p0 p1 p2 p3 ar;cases x4
   case true =>
    have b:=qh (b.o.trans (if_pos rfl));have m:=qh (show R=1 from l.o.trans (by rw[b.o];rfl));go_wp2_with (go_at_call 30;(with_reducible refine K4.o.mono ?_);rintro M J ⟨rfl,rfl⟩);go_ret;exact⟨ai m.o.symm,I⟩
   have b:=qh (b.o.trans (if_neg (by decide)));have V:=tJ bf.o;have aa:=an.get V;rw[VR] at aa;obtain⟨x5,aZ⟩:=af ((d.os.take j).any (λ p=>decide (p.code=o.code)));rw[aZ] at aa b;have bg:=qh V;clear aZ V;cases x5
   case true =>
    have b:=qh (b.o.trans (if_pos rfl));have m:=qh (show R=6 from l.o.trans (by rw[b.o];rfl));go_wp2_with (go_at_call 30;(with_reducible refine K4.o.mono ?_);rintro M J ⟨rfl,rfl⟩);go_ret;exact⟨ai m.o.symm,I⟩
   have b:=qh (b.o.trans (if_neg (by decide)));have a4:=qh VS;have av:=qh (show B0<=wr.heap.size by have:=aD.size;omega);clear VS;go_upto_region 23 with (first
    | (go_at_call 30;(with_reducible refine K4.o.mono ?_);rintro M J ⟨rfl,rfl⟩)
    | (at_mapUpdate;refine Ai rfl _ _ _ rfl rfl an a3 rfl rfl bg.o ?_;intro w7 aw wE;have a5:=aE.grown wE (λ e=>by injection e;omega);have X:=H.grown wE (b4 aR Fq.size) (λ g hg=>by cases hg;exact co _);have aM:=(Fq.mono av.o).grown wE (b4 av.o Fq.size) (λ g hg=>by cases hg;exact b4 z q)))
   have q1:=a5.cell 1;have G:=u.trans (X.mono q);have KP:=qh (aA.o w7 o.ph A2 c2 B0 G (a4.o.keep aM) (b4 z G.size));obtain⟨r,hr⟩:=af (rZ (λ _=>(0,0)) nl false o.ph);rw[hr] at KP b;have ap:=qh aw;rw[<- HK.o] at ap;clear hr aa r0 aw wE aM;by_cases h0:r=0
   case' pos =>
    have b:=qh (b.o.trans (if_neg (λ h=>h h0)));obtain⟨g0,bb⟩:=jf h0
   case' neg =>
    have b:=qh (b.o.trans (if_pos h0));have m:=qh (show R=r from l.o.trans (by rw[b.o,if_pos h0]));obtain⟨g0,bb⟩:=gp h0
   all_goals clear h0
   all_goals go_wp2_with (go_at_call 112;(with_reducible refine KP.o.mono ?_);rintro e8 w8 ⟨rfl,Z⟩)
   .go_ret;exact⟨ai m.o.symm,G.trans (Z.mono G.size)⟩
   go_roundw
   case rel=>exact⟨j+1,by go_num,a2.o,b,qh (ap.o.below Z),X.trans (Z.mono X.size)⟩
   case measure =>
    have:=a2.o;simp[intOf];omega
end Go.Proofs.YtcnagconagpkcaaGreatDoor
namespace Go.Proofs.YtcnagconagpkcaaGreatDoor
open Go.RowKit
attribute [local go_sem ↓] Go.wp_at_zero Go.wp_at_succ
attribute [local go_sem ↓] ld_item st_item ld_node st_node ld_ans st_ans ld_part st_part ld_rule st_rule ld_form st_form
set_option maxHeartbeats 4000000
set_option maxRecDepth 100000
theorem aJ.itm {w:World} {B0 p z r t:Nat} {x:ku} {f:aG} {N:List ah} {K:aV} (h:aJ w B0 p z r t x f N K) {i:Nat} (v:i<N.length) :
  ∃ ad n e d o b m g l k a B1 b1 B2 b2 B3 b3 W cs,w.cell? ⟨p,5,none⟩=some (bR (some ad) N.length x.cn)/\(qG 59 (bS (some (ad.add (i*23))))).run Tryz.prog w = .ok (.agg cs.toArray) w/\(Hy 59 (bS (some ⟨w.heap.size,0,none⟩)) (.agg cs.toArray)).run Tryz.prog (w.alloc (.cells #[bL bN 0,bO ⟨#[]⟩,bR none 0 0,bR none 0 0,bR none 0 0,bX false,bR none 0 0,bO ⟨#[]⟩,bL bN 0,bL bN 0,bL bN 0,bL bN 0,bO ⟨#[]⟩,bR none 0 0,bX false,bR none 0 0,bX false,bR none 0 0,bR none 0 0] 59 (0,0))) = .ok () W/\EG w W/\ag W w.heap.size 59 cs.toArray/\[bL bN N[i].it.k,bO N[i].it.nm,bR n N[i].it.iff.length e,bR d N[i].it.ph.length o,bR b N[i].it.items.length m,bX N[i].it.sh,bR g N[i].it.cnt.length l,bO N[i].it.over,bL bN N[i].it.ans.k,bL bN N[i].it.ans.lo,bL bN N[i].it.ans.hi,bL bN N[i].it.ans.pl,bO N[i].it.ans.ls,bR B1 N[i].it.ans.only.length b1,bX N[i].it.ans.sh,bR B2 N[i].it.ans.rs.length b2,bX N[i].it.ans.need,bR B3 N[i].it.ans.ch.length b3,bR k N[i].it.cmp.length a]=cs/\bW w B0 N[i].it cs:=by
 obtain⟨ad,n,e,d,o,b,m,g,l,k,a,B1,b1,B2,b2,B3,b3,A,c,B,y,hit,-,s⟩:=h.oW v;exact⟨ad,n,e,d,o,b,m,g,l,k,a,B1,b1,B2,b2,B3,b3,_,_,y,vC rfl (λ j u q=>s j u (by have:=(List.getElem?_eq_some_iff.1 q).1;show ([bL bN N[i].it.k,bO N[i].it.nm,bR n N[i].it.iff.length e,bR d N[i].it.ph.length o,bR b N[i].it.items.length m,bX N[i].it.sh,bR g N[i].it.cnt.length l,bO N[i].it.over,bL bN N[i].it.ans.k,bL bN N[i].it.ans.lo,bL bN N[i].it.ans.hi,bL bN N[i].it.ans.pl,bO N[i].it.ans.ls,bR B1 N[i].it.ans.only.length b1,bX N[i].it.ans.sh,bR B2 N[i].it.ans.rs.length b2,bX N[i].it.ans.need,bR B3 N[i].it.ans.ch.length b3,bR k N[i].it.cmp.length a] ++ [bL bN N[i].par,bL bN N[i].kV,bL bN N[i].dJ,bR A N[i].lo.length c])[j]?=some u;rw[List.getElem?_append_left this];exact q)),Nq rfl (by simp[ck]),aB w _,ag.new w _ _,rfl,hit⟩
theorem aJ.ndb {w:World} {B0 q v r s:Nat} {x:ku} {f:aG} {N:List ah} {K:aV} (h:aJ w B0 q v r s x f N K) {i:Nat} (t:i<N.length) :
  ∃ ad m e d n b l g k j a B1 b1 B2 b2 B3 b3 A c W cs,w.cell? ⟨q,5,none⟩=some (bR (some ad) N.length x.cn)/\(qG 110 (bS (some (ad.add (i*23))))).run Tryz.prog w = .ok (.agg cs.toArray) w/\(Hy 110 (bS (some ⟨w.heap.size,0,none⟩)) (.agg cs.toArray)).run Tryz.prog (w.alloc (.cells #[bL bN 0,bO ⟨#[]⟩,bR none 0 0,bR none 0 0,bR none 0 0,bX false,bR none 0 0,bO ⟨#[]⟩,bL bN 0,bL bN 0,bL bN 0,bL bN 0,bO ⟨#[]⟩,bR none 0 0,bX false,bR none 0 0,bX false,bR none 0 0,bR none 0 0,bL bN 0,bL bN 0,bL bN 0,bR none 0 0] 110 (0,0))) = .ok () W/\EG w W/\ag W w.heap.size 110 cs.toArray/\[bL bN N[i].it.k,bO N[i].it.nm,bR m N[i].it.iff.length e,bR d N[i].it.ph.length n,bR b N[i].it.items.length l,bX N[i].it.sh,bR g N[i].it.cnt.length k,bO N[i].it.over,bL bN N[i].it.ans.k,bL bN N[i].it.ans.lo,bL bN N[i].it.ans.hi,bL bN N[i].it.ans.pl,bO N[i].it.ans.ls,bR B1 N[i].it.ans.only.length b1,bX N[i].it.ans.sh,bR B2 N[i].it.ans.rs.length b2,bX N[i].it.ans.need,bR B3 N[i].it.ans.ch.length b3,bR j N[i].it.cmp.length a,bL bN N[i].par,bL bN N[i].kV,bL bN N[i].dJ,bR A N[i].lo.length c]=cs/\bW w B0 N[i].it ([bL bN N[i].it.k,bO N[i].it.nm,bR m N[i].it.iff.length e,bR d N[i].it.ph.length n,bR b N[i].it.items.length l,bX N[i].it.sh,bR g N[i].it.cnt.length k,bO N[i].it.over,bL bN N[i].it.ans.k,bL bN N[i].it.ans.lo,bL bN N[i].it.ans.hi,bL bN N[i].it.ans.pl,bO N[i].it.ans.ls,bR B1 N[i].it.ans.only.length b1,bX N[i].it.ans.sh,bR B2 N[i].it.ans.rs.length b2,bX N[i].it.ans.need,bR B3 N[i].it.ans.ch.length b3,bR j N[i].it.cmp.length a])/\(nP w w.heap.size A c N[i].lo/\N[i].lo.length<=1000)/\w.cell? ((ad.add (i*23)).add 22)=some (bR A N[i].lo.length c):=by
 obtain⟨ad,m,e,d,n,b,l,g,k,j,a,B1,b1,B2,b2,B3,b3,A,c,y,u,hit,o,p⟩:=h.oW t;exact⟨ad,m,e,d,n,b,l,g,k,j,a,B1,b1,B2,b2,B3,b3,A,c,_,_,u,yl rfl p,Dp rfl (by simp[ck]),aB w _,ag.new w _ _,rfl,hit,o,p 22 _ rfl⟩
theorem e8 {w:World} {a:Addr} {c i f b e g d v7:Value} (h:∀ j u,[c,i,f,b,e,g,d,v7][j]?=some u->w.cell? (a.add j)=some u) :
  w.cell? a=some c/\w.cell? ⟨a.block,a.off+1,none⟩=some i/\w.cell? ⟨a.block,a.off+2,none⟩=some f/\w.cell? ⟨a.block,a.off+3,none⟩=some b/\w.cell? ⟨a.block,a.off+4,none⟩=some e/\w.cell? ⟨a.block,a.off+5,none⟩=some g/\w.cell? ⟨a.block,a.off+6,none⟩=some d/\w.cell? ⟨a.block,a.off+7,none⟩=some v7:=
 ⟨h 0 _ rfl,h 1 _ rfl,h 2 _ rfl,h 3 _ rfl,h 4 _ rfl,h 5 _ rfl,h 6 _ rfl,h 7 _ rfl⟩
theorem b8 {w:World} {g:Nat} {T:TypeId} {b i e a d f c v7:Value} (h:ag w g T #[b,i,e,a,d,f,c,v7]) :
  w.cell? ⟨g,0,none⟩=some b/\w.cell? ⟨g,1,none⟩=some i/\w.cell? ⟨g,2,none⟩=some e/\w.cell? ⟨g,3,none⟩=some a/\w.cell? ⟨g,4,none⟩=some d/\w.cell? ⟨g,5,none⟩=some f/\w.cell? ⟨g,6,none⟩=some c/\w.cell? ⟨g,7,none⟩=some v7:=
 ⟨h.cell 0,h.cell 1,h.cell 2,h.cell 3,h.cell 4,h.cell 5,h.cell 6,h.cell 7⟩
theorem aeM {N:List ah} {s:ByteArray} (h:¬ vV N s<0):∃ i:Nat,vV N s=i/\i<N.length:=by
 unfold vV at h ⊢;split at h
 .exact absurd h (by decide)
 .rename_i a;rw[if_neg a];exact um h
theorem VT {w:World} {B0 gb m1 m2 m3:Nat} {x:ku} {f:aG} {N:List ah} {K:aV} (h:aJ w B0 gb m1 m2 m3 x f N K) {cg:Nat} (an:w.cell? ⟨cg,0,none⟩=some (bS (some ⟨gb,0,none⟩))) (a8:cg<w.heap.size) (hN:eH N) {n:Nat} (hn:n<N.length) (hp:∀ e∈N[n].it.cnt,e.parts<=1000000) (ak:Tab w) (a4:Mx w) :
  CS 118 #[bS (some ⟨cg,0,none⟩),bL bN n] w (bL bN (IL N f.lists K n)):=by
 have hB:=h.le;have bg:=h.cap;have su:=h.nodes.1;obtain⟨ad,A1,c1,A2,c2,A3,c3,A4,c4,A5,c5,B1,b1,B2,b2,B3,b3,W,cs,T,H,al,p,BW,I,hit⟩:=h.itm hn;have E:au aQ 8 w B0 A4 N[n].it.cnt:=by subst I;cases hit;assumption
 have aM:N[n].it.over.size<=maxLen:=by subst I;cases hit;assumption
 obtain⟨d,hd⟩:=af (N[n].it);rw[hd] at E aM I hp;have q6:W.cell? ⟨w.heap.size,6,none⟩=some (bR A4 d.cnt.length c4):=by rw[BW.cell 6];subst I;rfl
 have q7:W.cell? ⟨w.heap.size,7,none⟩=some (bO d.over):=by rw[BW.cell 7];subst I;rfl
 have B:=E.1;unfold maxLen at B;have HL:=qh (E.keep (λ _ _ h=>h.keep (p.mono hB)) (p.mono hB));have HP:=qh hp;have lg:=qh (show ∀ w',EG W w'->aJ w' B0 gb m1 m2 m3 x f N K/\w'.cell? ⟨cg,0,none⟩=some (bS (some ⟨gb,0,none⟩))/\cg<w'.heap.size/\w'.cell? ⟨gb,5,none⟩=some (bR (some ad) N.length x.cn)/\w'.cell? ⟨w.heap.size,7,none⟩=some (bO d.over)/\Tab w'/\Mx w'/\EG w w' from λ w' Y=>by
  have j:=p.trans (Y.mono p.size);exact⟨h.keep j,Below.cell_of j an,cj a8 j.size,Below.cell_of j T,Below.cell_of Y q7,aF ak j,a4.below j,j⟩)
 have KF:=qh (show ∀ w' e cs,EG W w'->aQ w' B0 e cs->e.parts<=1000000->Calls Tryz.prog 120 #[bS (some ⟨cg,0,none⟩),.agg cs.toArray,bL bN n,bR none 0 0] w' λ en bb=>en = b0 (.tuple #[bL bN (bU N K n [] e).1,bL bN (bU N K n [] e).2])/\EG w' bb from λ w' e cs hq hx bd=>by
  obtain⟨b1,b2,b3,-,-,b6,b7,b8⟩:=lg.o w' hq;exact xJ b1 b2 b3 hN (more:=[]) ⟨by decide,[],Reads.none_,λ i hi=>by cases hi⟩ (.inl ⟨rfl,rfl,rfl⟩) hx (b4 hB b8.size) hn bd b6 b7)
 have HN:=qh (b9 hN hd);obtain⟨R,hR⟩:=af (IL N f.lists K n);have D:=qh (show R=if eG (bU N K n []) 2 d.cnt≠0 then eG (bU N K n []) 2 d.cnt else SB N f.lists n by rw[<- hR];unfold IL;rw[iY hn,hd]);rw[hR];obtain⟨FF,aZ⟩:=af (bU N K n []);rw[aZ] at KF D;obtain⟨O,hO⟩:=af (SB N f.lists n);rw[hO] at D;have o:=qh (show O=if d.over=⟨#[]⟩ then 0 else if vV N d.over<0 then 5 else if jo N (vV N d.over) n=false then 14 else if (je N (vV N d.over)).it.ans.k≠5 then 8 else
  if N[n].lo.length<(je N (vV N d.over)).lo.length\/(je N (vV N d.over)).lo≠N[n].lo.take (je N (vV N d.over)).lo.length then 5 else
  if 20<(match eX f.lists (je N (vV N d.over)).it.ans.ls with | some l=>l.os.length | none=>0) then 2 else 0 by rw[<- hO];unfold SB;rw[iY hn,hd];rfl)
 have HK:=qh an;have bi:=h.blk.lt;clear h E hp ak a4 hR aZ hO I hit BW hN hd;go_enter Tryz.func118,Tryz.ntmps118;go_upto_region 2 with (fail);clear H al T an;go_wp2;clear q6 q7;go_loopw [26] (λ i wr=>∃ k:Nat,i = bL bN k/\k<=d.cnt.length/\Hid (eG FF 2 d.cnt=eG FF 2 (d.cnt.drop k))/\EG W wr) (λ i _=>d.cnt.length+1 - (intOf i).toNat)
 case atStart=>exact⟨0,rfl,ca _,qh rfl,Below.refl _ _⟩
 case round =>
  obtain⟨k,rfl,hk,HD,Y⟩:=hrel;have hs:=Y.size;by_cases hlt:k<d.cnt.length
  .have HD:=qh (HD.o.trans (FN hlt));obtain⟨ae,ci,rfl,be,ar,M⟩:=au.at_ (au.keep (λ _ _ h=>h.keep (Y.mono (b4 hB p.size))) HL.o (Y.mono (b4 hB p.size))) hlt;obtain⟨a,ha⟩:=af (d.cnt[k]);have lL:=qh (HP.o a (ha▸ce hlt));rw[ha] at ar HD;have tq:=qh ar;have aX:=qh hlt;obtain⟨-,-,-,-,-,-,-⟩:=ar;rename_i A3 c3 A4 c4 bj;obtain⟨f0,f1,f2,f3,f4,f5,f6,f7⟩:=e8 M;obtain⟨W3,a3,C,B3⟩:=box wr 67 (BC a A3 c3 A4 a.ar.length c4);have L:=Y.trans (C.mono hs);clear M ha be;go_upto_region 5 with (fail);rw[<- a3];clear a3 f0 f1 f2 f3 f4 f5 f6 f7;obtain⟨f0,f1,f2,f3,f4,f5,f6,f7⟩:=b8 B3;have KA:=qh (show Calls Tryz.prog 120 #[bS (some ⟨cg,0,none⟩),.agg (BC a A3 c3 A4 a.ar.length c4),bL bN n,bR none 0 0] W3 _ from KF.o W3 a _ L (tq.o.keep (C.mono (b4 hB (b4 p.size hs)))) lL.o);obtain⟨r,hr⟩:=af (FF a);rw[hr] at KA HD;clear hr;by_cases h0:r.2=0
   case' neg =>
    have t:=qh (show R=r.2 from D.o.trans (by rw[HD.o.trans (if_pos h0)];exact if_pos h0));obtain⟨g0,aq⟩:=gp h0;clear h0
   case' pos =>
    have a1:=qh (HD.o.trans (if_neg (λ h=>h h0)));obtain⟨g0,aq⟩:=jf h0;clear h0;by_cases h7:r.1=2
    case' neg =>
     have t:=qh (show R=8 from D.o.trans (by rw[a1.o.trans (if_pos h7)];rfl));obtain⟨g7,a7⟩:=gp h7;clear h7
    case' pos =>
     have t:=qh (a1.o.trans (if_neg (λ h=>h h7)));obtain⟨g7,a7⟩:=jf h7;clear h7
   all_goals
    go_wp2_with (go_at_call 120;(with_reducible refine KA.o.mono ?_);rintro e1 U ⟨rfl,g⟩;have g:=L.trans (g.mono L.size);clear f0 f1 f2 f3 f4 f5 f6 f7)
    first
     | (go_ret
        exact⟨ai t.o.symm,p.trans (g.mono p.size)⟩)
     | (go_roundw
        case rel=>exact⟨k+1,by go_num,aX.o,t,g⟩
        case measure =>
         have:=aX.o;simp[intOf];omega)
  obtain rfl:k=d.cnt.length:=by omega
  have D:=qh (show R=O from D.o.trans (by rw[HD.o,cb];rfl));obtain⟨b1,b2,b3,X,b5,-,-,b8⟩:=lg.o wr Y;by_cases ho:d.over=⟨#[]⟩
  .have t:=qh (show R=0 from D.o.trans (o.o.trans (if_pos ho)));obtain⟨g0,aq⟩:=agv ho;clear ho b1;go_wp2;go_ret;exact⟨ai t.o.symm,b8⟩
  have o:=qh (o.o.trans (if_neg ho));obtain⟨g0,aq⟩:=agw ho;obtain⟨q,hq⟩:=af (vV N d.over);have HQ:=qh hq;rw[hq] at o;have KQ:=qh (Later.call (W:=wr) (f:=173) (args:=#[bS (some ⟨gb,0,none⟩),bO d.over]) (v:=bL bN q) λ w' j=>(JO (b1.keep j) d.over aM).mono λ _ _ ⟨he,hw⟩=>⟨by rw[he,HQ.o],hw▸Below.refl _ _⟩);have r1:=Later.cell b2;have r2:=Later.cell b5;clear ho hq b1 X;go_upto_region 13 with (fail);refine aO (by kernel_rfl) (by kernel_rfl) ?_
  repeat (go_big_quiet_step (first | (with_reducible exact KQ.o _)))
  refine wpQuiet_nil ?_;intro W9 z;have jl:=jg z;clear z KQ r1 r2 b2 b5;have jl:=Y.trans (jl.mono hs);obtain⟨b1,b2,b3,X,b5,-,-,b8⟩:=lg.o W9 jl;by_cases hq0:q<0
  .have t:=qh (D.o.trans (o.o.trans (if_pos hq0)));clear b1;go_wp2;go_ret;exact⟨ai t.o.symm,b8⟩
  have o:=qh (o.o.trans (if_neg hq0));obtain⟨m,hm,Z⟩:=aeM (HQ.o▸hq0);obtain rfl:q=(m:Int):=HQ.o.symm.trans hm;obtain⟨ae,A1,c1,A2,c2,A3,c3,A4,c4,A5,c5,B1,b1,B2,b2,B3,b3,A,c,W3,ds,T,H,al,C,B3,S,hit,av,-⟩:=b1.ndb Z;obtain rfl:ad=ae:=by rw[X] at T;injection T with h;injection h with h;exact Option.some.inj h
  obtain⟨y,hy⟩:=af (N[m]);have ap:=jl.trans (C.mono jl.size);rw[iY Z,hy] at o;rw[hy] at S hit av;have z8:W3.cell? ⟨W9.heap.size,8,none⟩=some (bL bN y.it.ans.k):=by rw[B3.cell 8];subst S;rfl
  have aa:W3.cell? ⟨W9.heap.size,12,none⟩=some (bO y.it.ans.ls):=by rw[B3.cell 12];subst S;rfl
  have F:W3.cell? ⟨W9.heap.size,22,none⟩=some (bR A y.lo.length c):=by rw[B3.cell 22];subst S;rfl
  have bf:y.it.ans.ls.size<=maxLen:=by cases hit;exact nI.l5 (by assumption)
  have ax:=qh av;have bl:=qh Z;clear S hit hy hm av B3 hq0 T;go_upto_region 17 with (fail);clear H al b1 b2 X b5 b8;obtain⟨b1,b2,b3,X,b5,-,-,b8⟩:=lg.o W3 ap;obtain⟨x1,am⟩:=af (jo N m n);have KA:=qh (am▸xG b1 HN.o.1 m n Z hn);rw[am] at o;clear am b1;cases x1
  case false =>
   have t:=qh (D.o.trans (o.o.trans (if_pos rfl)));go_wp2_with (go_at_call 174;(with_reducible refine KA.o.mono ?_);rintro e1 U ⟨rfl,g⟩);go_ret;exact⟨ai t.o.symm,b8.trans (g.mono b8.size)⟩
  have o:=qh (o.o.trans (if_neg (by decide)));go_upto_region 19 with (go_at_call 174;(with_reducible refine KA.o.mono ?_);rintro e1 U ⟨rfl,g⟩);have z8:=Below.cell_of g z8;have aa:=Below.cell_of g aa;have F:=Below.cell_of g F;have ay:=ap.trans (g.mono ap.size);clear b2 b3 X b5 b8;obtain⟨b1,b2,b3,X,b5,-,-,b8⟩:=lg.o U ay;by_cases h5:y.it.ans.k=5
  case neg =>
   have t:=qh (D.o.trans (o.o.trans (if_pos h5)));obtain⟨g5,WJ⟩:=gp h5;clear b1;go_wp2;go_ret;exact⟨ai t.o.symm,b8⟩
  have o:=qh (o.o.trans (if_neg (λ h=>h h5)));obtain⟨g5,WJ⟩:=jf h5;have bm:=qh b1;obtain⟨ae,-,-,-,-,-,-,-,-,-,-,-,-,-,-,-,-,A9,c9,-,-,T,-,-,-,-,-,-,aA,P⟩:=b1.ndb hn;obtain rfl:ad=ae:=by rw[X] at T;injection T with h;injection h with h;exact Option.some.inj h
  have aL:=ax.o.2;have aR:=aA.2;have V:=qh aA;obtain⟨u,a0⟩:=af (y.lo);rw[a0] at o ax F aL;have aw:=qh (show nP U U.heap.size A c u from (ax.o.1.keep (C.trans (g.mono C.size))).up (b4 C.size g.size));obtain⟨G,a2⟩:=af (N[n].lo);rw[a2] at o V P aR;have P:U.cell? ⟨(ad.add (n*23)).block,(ad.add (n*23)).off+22,none⟩=some (bR A9 G.length c9):=P;clear T h5 aA a2 b1 a0;have r1:=Later.cell b2;have r2:=Later.cell X;have r3:=Later.cell F;have r4:=Later.cell P;by_cases B:G.length<u.length
  .have t:=qh (D.o.trans (o.o.trans (if_pos (.inl B))));have ab:(G.length:Int)<u.length:=by omega
   have H:decide ((G.length:Int)<u.length)=true:=decide_eq_true ab;have a5:decide (G.length<u.length)=true:=decide_eq_true B;go_upto_region 21 with (fail);refine aO (by kernel_rfl) (by kernel_rfl) ?_
   repeat (go_big_quiet_step (fail))
   refine wpQuiet_nil ?_;intro W8 z;have Q:=jg z;clear z r1 r2 r3 r4;go_wp2;go_ret;exact⟨ai t.o.symm,b8.trans (Q.mono b8.size)⟩
  have ab:¬ (G.length:Int)<u.length:=by omega
  have H:decide ((G.length:Int)<u.length)=false:=decide_eq_false ab;have a5:decide (G.length<u.length)=false:=decide_eq_false B;obtain⟨b,aE⟩:=af (decide (u=G.take u.length));have KE:=qh (Later.call (W:=U) (f:=16) (args:=#[bR A u.length c,bR A9 u.length c9]) (v:=bX b) λ w' j=>by
   have ac:(G.take u.length).length=u.length:=by rw[cq];omega
   have h:=kQ A A9 c c9 U.heap.size U.heap.size u (G.take u.length) w' aw.o.2.2.1 (by rw[ac];exact aw.o.2.2.1) (aw.o.1.below j) (dB.take (V.o.1.1.below j) _);rw[ac,aE] at h;exact h)
  have ba:u.length<=c9:=by have:=V.o.1.2.1;omega
  have aD:A9=none->u = []/\G = []:=λ e=>by
   rcases Nat.eq_zero_or_pos G.length with h | h
   .exact⟨cu (by omega),cu h⟩
   .obtain⟨bk,e',-⟩:=V.o.1.1.2 h;rw[e] at e';cases e'
  have ao:=qh aE;have vF:=qh B;clear aE B;rcases A9 with _ | a9
  case' none =>
   obtain⟨rfl,rfl⟩:=aD rfl;clear aD ab H a5 ba aL aR;simp only[List.length_nil] at KE r3 r4 F P
  case' some =>
   clear aD
  all_goals
   go_upto_region 21 with (fail);refine aO (by kernel_rfl) (by kernel_rfl) ?_
   repeat (go_big_quiet_step (first | (with_reducible exact KE.o _)))
   refine wpQuiet_nil ?_;intro W8 z;have Q:=jg z;clear z r1 r2 r3 r4 KE;cases b
   case false =>
    have t:=qh (D.o.trans (o.o.trans (if_pos (.inr (of_decide_eq_false ao.o)))))
    first
     | exact absurd ao.o (by decide)
     | (go_wp2
        go_ret;exact⟨ai t.o.symm,b8.trans (Q.mono b8.size)⟩)
   have o:=qh (o.o.trans (if_neg (λ h=>h.elim vF.o (λ h=>h (of_decide_eq_true ao.o)))));have a6:=ay.trans (Q.mono ay.size);have aa:=Below.cell_of Q aa;obtain⟨d1,d2,d3,d4,d5,-,-,d8⟩:=lg.o W8 a6;have d6:W8.cell? ⟨gb,7,none⟩=some (.map (some m2)):=d1.blk.cell 7;obtain⟨kv,hm,J⟩:=d1.ls;have hl:=(show aS W8.drew m2 kv from hm.same rfl).get Tryz.underlying113 (SI W8.drew) bf;have J:=J y.it.ans.ls;obtain⟨n9,JQ⟩:=af ((match eX f.lists y.it.ans.ls with | some l=>l.os.length | none=>0));have hV:∃ s A' c',((gz kv y.it.ans.ls).getD (.agg #[.string ⟨#[]⟩,.slice none 0 0])) = .agg #[.string s,.slice A' n9 c']:=by
    rw[<- JQ];split at J
    .rename_i e;rw[J,e];exact⟨_,_,_,rfl⟩
    .rename_i l e;obtain⟨A',c',e',-⟩:=J;rw[e',e];exact⟨_,_,_,rfl⟩
   obtain⟨s9,A',c',hV⟩:=hV;rw[hV] at hl;rw[JQ] at o;have bh:∀ W:World,(Instr.field 92 (.agg #[bO s9,bR A' n9 c']) 1).run Tryz.prog W = .ok (bR A' n9 c') W:=λ _=>by kernel_rfl
   clear hV JQ J hm d1 d3 d4 d5 F z8;by_cases h20:20<n9
   case' pos =>
    have t:=qh (D.o.trans (o.o.trans (if_pos h20)));have bc:(20:Int)<n9:=by omega
   case' neg =>
    have t:=qh (D.o.trans (o.o.trans (if_neg h20)));have bc:¬ (20:Int)<n9:=by omega
   all_goals
    clear h20;go_upto_region 23 with (fail);go_region;go_wp2;go_ret;exact⟨ai t.o.symm,by first | exact d8 | exact d8.drew⟩
set_option maxHeartbeats 4000000
set_option maxRecDepth 100000
theorem acp {w:World} {cs:List Value} (a:cs.length=10) (b:∀ v∈cs,v.oneCell'=true):(Hy 57 (bS (some ⟨w.heap.size,0,none⟩)) (.agg cs.toArray)).run Tryz.prog (w.alloc (.cells #[bL bN 0,bL bN 0,bL bN 0,bL bN 0,bO ⟨#[]⟩,bR none 0 0,bX false,bR none 0 0,bX false,bR none 0 0] 57 (0,0))) = .ok () (w.alloc (.cells cs.toArray 57 (0,0))):=
 lI (by rw[show cs.toArray.size=10 from a];kernel_rfl) (show 10=cs.toArray.size from a.symm) (by rw[<- Array.all_toList];exact cp.2 b)
theorem ZA {w:World} {ad:Addr} {cs:List Value} (a:cs.length=10) (b:∀ j u,cs[j]?=some u->w.cell? (ad.add j)=some u):(qG 144 (bS (some ad))).run Tryz.prog w = .ok (.agg cs.toArray) w:=
 gu Tryz.underlying144 rfl (by rw[a];kernel_rfl) b
theorem ZC {w:World} {cs:List Value} (a:cs.length=10) (b:∀ v∈cs,v.oneCell'=true):(Hy 144 (bS (some ⟨w.heap.size,0,none⟩)) (.agg cs.toArray)).run Tryz.prog (w.alloc (.cells #[bL bN 0,bL bN 0,bO ⟨#[]⟩,bL bN 0,bL bN 0,bO ⟨#[]⟩,bR none 0 0,bR none 0 0,bX false,bR none 0 0] 144 (0,0))) = .ok () (w.alloc (.cells cs.toArray 144 (0,0))):=
 lI (by rw[show cs.toArray.size=10 from a];kernel_rfl) (show 10=cs.toArray.size from a.symm) (by rw[<- Array.all_toList];exact cp.2 b)
theorem aJ.alR {w:World} {B0 d m e g:Nat} {x:ku} {f:aG} {N:List ah} {K:aV} (h:aJ w B0 d m e g x f N K) {i:Nat} (k:i<N.length) :
  ∃ ad B1 b1 B2 b2 B3 b3 W cs,w.cell? ⟨d,5,none⟩=some (bR (some ad) N.length x.cn)/\(qG 57 (bS (some ⟨(ad.add (i*23)).block,(ad.add (i*23)).off+8,none⟩))).run Tryz.prog w = .ok (.agg cs.toArray) w/\(Hy 57 (bS (some ⟨w.heap.size,0,none⟩)) (.agg cs.toArray)).run Tryz.prog (w.alloc (.cells #[bL bN 0,bL bN 0,bL bN 0,bL bN 0,bO ⟨#[]⟩,bR none 0 0,bX false,bR none 0 0,bX false,bR none 0 0] 57 (0,0))) = .ok () W/\EG w W/\ag W w.heap.size 57 cs.toArray/\[bL bN N[i].it.ans.k,bL bN N[i].it.ans.lo,bL bN N[i].it.ans.hi,bL bN N[i].it.ans.pl,bO N[i].it.ans.ls,bR B1 N[i].it.ans.only.length b1,bX N[i].it.ans.sh,bR B2 N[i].it.ans.rs.length b2,bX N[i].it.ans.need,bR B3 N[i].it.ans.ch.length b3]=cs/\nI w B0 N[i].it.ans B1 b1 B2 b2 B3 b3:=by
 obtain⟨ad,z,q,p,B,o,y,r,v,s,n,B1,b1,B2,b2,B3,b3,A,c,t,l,hit,-,b⟩:=h.oW k;refine⟨ad,B1,b1,B2,b2,B3,b3,_,_,l,uo rfl (λ j u a=>?_),acp rfl (by simp[ck]),aB w _,ag.new w _ _,rfl,by cases hit;assumption⟩
 match j,a with
 | 0,a=>exact b 8 _ a
 | 1,a=>exact b 9 _ a
 | 2,a=>exact b 10 _ a
 | 3,a=>exact b 11 _ a
 | 4,a=>exact b 12 _ a
 | 5,a=>exact b 13 _ a
 | 6,a=>exact b 14 _ a
 | 7,a=>exact b 15 _ a
 | 8,a=>exact b 16 _ a
 | 9,a=>exact b 17 _ a
 | j+10,a=>simp at a
theorem OT {N:List ah} {K:aV} {a:Nat} {n:Int} {l:List gq} {k:Nat} (h:k<l.length):ui N K a n (l.drop k)=if eG (bU N K n (cZ N K n)) 7 [l[k].must]≠0 then eG (bU N K n (cZ N K n)) 7 [l[k].must] else
  if rZ (bU N K n (cZ N K n)) a true l[k].ph≠0 then rZ (bU N K n (cZ N K n)) a true l[k].ph else ui N K a n (l.drop (k+1)):=by
 rw[cf h,ui]
theorem Ri {w:World} {B0 gb m1 m2 m3:Nat} {x:ku} {f:aG} {N:List ah} {K:aV} (h:aJ w B0 gb m1 m2 m3 x f N K) {F:Nat} (G:w.cell? ⟨F,0,none⟩=some (bS (some ⟨gb,0,none⟩))) (a0:F<w.heap.size) (hN:eH N) {n:Nat} (hn:n<N.length) (am:∀ e∈N[n].it.ans.only,e.parts<=1000000) (an:∀ r∈N[n].it.ans.ch,r.must.parts<=1000000) (aa:Tab w) (aD:Mx w) :
  CS 119 #[bS (some ⟨F,0,none⟩),bL bN n] w (bL bN (BV N K f.aA.length n)):=by
 have E:=h.le;have a9:=h.cap;have su:=h.nodes.1;obtain⟨ad,B1,b1,B2,b2,B3,b3,W,cs,cX,a3,aL,ac,BW,Z,U⟩:=h.alR hn;obtain⟨d,hd⟩:=af (N[n].it);rw[hd] at U Z am an;have q5:W.cell? ⟨w.heap.size,5,none⟩=some (bR B1 d.ans.only.length b1):=by rw[BW.cell 5];subst Z;rfl
 have q9:W.cell? ⟨w.heap.size,9,none⟩=some (bR B3 d.ans.ch.length b3):=by rw[BW.cell 9];subst Z;rfl
 have aZ:=U.h3.1;unfold maxLen at aZ;have HL:=qh (b9 U.h1 (b9 U.h3 U.l3));have lg:=qh (show ∀ w',EG w w'->aJ w' B0 gb m1 m2 m3 x f N K/\w'.cell? ⟨F,0,none⟩=some (bS (some ⟨gb,0,none⟩))/\F<w'.heap.size/\Tab w'/\Mx w' from λ w' M =>
  ⟨h.keep M,Below.cell_of M G,cj a0 M.size,aF aa M,aD.below M⟩)
 have KB:=qh (show ∀ w' (l:List Ex) A c B (more:List aY) AM cm,EG w w'->au aQ 8 w' B A l->B<=w'.heap.size->(∀ e∈l,e.parts<=1000000)->fJ w' w'.heap.size AM more->((AM=none/\cm=0/\more = [])\/(∃ m,more = [m]))->Calls Tryz.prog 117 #[bS (some ⟨F,0,none⟩),bR A l.length c,bL bN n,bR AM more.length cm] w' λ en j=>en = b0 (bL bN (eG (bU N K n more) 7 l))/\EG w' j from
  λ w' l A c B more AM cm t hl a1 hp a8 aR=>by
   obtain⟨b1,b2,b3,b6,b7⟩:=lg.o w' t;exact I9 b1 b2 b3 hN a8 aR hl a1 hn hp b6 b7)
 have KP:=qh (show ∀ w' p A c B,EG w w'->nP w' B A c p->B<=w'.heap.size->Calls Tryz.prog 112 #[bS (some ⟨F,0,none⟩),bR A p.length c,bL bN n,bX true] w' λ e j=>e = b0 (bL bN (rZ (bU N K n (cZ N K n)) f.aA.length true p))/\EG w' j from
  λ w' p A c B hb hp E=>by
   obtain⟨b1,b2,b3,b6,b7⟩:=lg.o w' hb;exact zf b1 b2 b3 hN hp E (λ _=>⟨n,rfl,hn,rfl⟩) b6 b7)
 have KI:=qh (show ∀ w',EG w w'->Calls Tryz.prog 169 #[bS (some ⟨gb,0,none⟩),bL bN n] w' λ e j=>(∃ v,e = b0 v/\(∃ A c,v = bR A (cZ N K n).length c/\fJ j j.heap.size A (cZ N K n)/\((A=none/\c=0/\cZ N K n = [])\/(∃ m,cZ N K n = [m]))))/\EG w' j from λ w' t=>FM (lg.o w' t).1 n hn);obtain⟨R,hR⟩:=af (BV N K f.aA.length n);have HF:=qh (show R=if eG (bU N K n [⟨vw,4,[]⟩]) 7 d.ans.only≠0 then eG (bU N K n [⟨vw,4,[]⟩]) 7 d.ans.only else ui N K f.aA.length n d.ans.ch by rw[<- hR];unfold BV;rw[iY hn,hd]);rw[hR];obtain⟨r,hr⟩:=af (eG (bU N K n [⟨vw,4,[]⟩]) 7 d.ans.only);rw[hr] at HF;obtain⟨nl,ay⟩:=af (f.aA.length);rw[ay] at HF KP;obtain⟨W2,av,al,B2⟩:=box W 51 #[bO { data:=#[111,112,116,105,111,110] },bL bN 4,bR none 0 0];have q:=ac.trans (al.mono ac.size);have K1:=qh (show Calls Tryz.prog 117 #[bS (some ⟨F,0,none⟩),bR B1 d.ans.only.length b1,bL bN n,bR (some ⟨W.heap.size,0,none⟩) 1 1] W2 _ from hr▸KB.o W2 d.ans.only B1 b1 B0 [⟨vw,4,[]⟩] (some ⟨W.heap.size,0,none⟩) 1 q (HL.o.1.keep (λ _ _ h=>h.keep (q.mono E)) (q.mono E)) (b4 E q.size) am
  ⟨by decide,_,⟨rfl,λ _=>⟨_,rfl,B2.lt,gU (cs:=[bO { data:=#[111,112,116,105,111,110] },bL bN 4,bR none 0 0]) B2⟩⟩,λ i hi=>by
   obtain rfl:i=0:=by simpa using hi
   exact⟨⟨none,0,rfl,Reads.none_,co _⟩,(show vw.size<=maxLen by decide),ca _,λ s hs=>by cases hs⟩⟩ (.inr ⟨_,rfl⟩))
 have a4:=qh an;clear h am an aa aD hR hr ay Z BW B2 hN hd U;go_enter Tryz.func119,Tryz.ntmps119;go_upto_region 2 with (fail);clear a3 aL cX;have aM:=Below.cell_of ac G;by_cases h0:r=0
 case' pos =>
  have HF:=qh (HF.o.trans (if_neg (λ h=>h h0)));obtain⟨g0,ak⟩:=jf h0
 case' neg =>
  have HE:=qh (HF.o.trans (if_pos h0));obtain⟨g0,ak⟩:=gp h0
 all_goals clear h0
 all_goals go_upto_region 3 with (rw[<- av];go_at_call 117;(with_reducible refine K1.o.mono ?_);rintro e1 w1 ⟨rfl,Y⟩)
 .have bT:=q.trans (Y.mono q.size);go_wp2;go_ret;exact⟨ai HE.o.symm,bT⟩
 have bT:=q.trans (Y.mono q.size);have q9:=Below.cell_of (al.trans (Y.mono al.size)) q9;clear q5 aM K1 av Y;go_wp2;clear q9 G;go_loopw [36] (λ i wr=>∃ k:Nat,i = bL bN k/\k<=d.ans.ch.length/\Hid (R=ui N K nl n (d.ans.ch.drop k))/\EG w wr) (λ i _=>d.ans.ch.length+1 - (intOf i).toNat)
 case atStart=>exact⟨0,rfl,ca _,HF,bT⟩
 case round =>
  obtain⟨k,rfl,hk,HD,hb⟩:=hrel;have hs:=hb.size;by_cases hlt:k<d.ans.ch.length
  case neg =>
   obtain rfl:k=d.ans.ch.length:=by omega
   have HE:=qh (show R=0 from HD.o.trans (by rw[cb];rfl));go_wp2;go_ret;exact⟨ai HE.o.symm,hb⟩
  have HD:=qh (HD.o.trans (OT hlt));obtain⟨ae,ci,rfl,a7,⟨es,A2,c2,rfl,hE,VS⟩,z⟩:=au.at_ (au.keep (λ _ _ h=>h.keep (hb.mono E)) HL.o.2.1 (hb.mono E)) hlt;obtain⟨a,U⟩:=af (d.ans.ch[k]);have lL:=qh (a4.o a (U▸ce hlt));rw[U] at hE z VS HD;have ap:=qh hE;have aX:=qh hlt;obtain⟨e,he⟩:=af (a.must);rw[he] at hE ap HD lL;obtain⟨-,-,-,-,-,-,-⟩:=hE;rename_i T Q P O bb;obtain⟨ds,o⟩:∃ ds:List Value,az e T Q P O ++ [bX a.soft,bR A2 a.ph.length c2]=ds:=⟨_,rfl⟩;have NC:=ZA (w:=wr) (ad:=ae.add (k*10)) (show ds.length=10 by subst o;rfl) (by subst o;exact z);have ab:=ZC (w:=wr) (show ds.length=10 by subst o;rfl) (by subst o;simp[ck,az]);obtain⟨b,DW,V,S⟩:=box wr 144 ds.toArray;rw[<- DW] at ab;have D:=hb.trans (V.mono hs);have z0:b.cell? ⟨wr.heap.size,0,none⟩=some (bL bN e.k):=by rw[S.cell 0];subst o;rfl
  have z1:b.cell? ⟨wr.heap.size,1,none⟩=some (bL bN e.op):=by rw[S.cell 1];subst o;rfl
  have z2:b.cell? ⟨wr.heap.size,2,none⟩=some (bO e.nm):=by rw[S.cell 2];subst o;rfl
  have z3:b.cell? ⟨wr.heap.size,3,none⟩=some (bL bN e.v.k):=by rw[S.cell 3];subst o;rfl
  have z4:b.cell? ⟨wr.heap.size,4,none⟩=some (bL bN e.v.n):=by rw[S.cell 4];subst o;rfl
  have z5:b.cell? ⟨wr.heap.size,5,none⟩=some (bO e.v.s):=by rw[S.cell 5];subst o;rfl
  have z6:b.cell? ⟨wr.heap.size,6,none⟩=some (bR T e.v.l.length Q):=by rw[S.cell 6];subst o;rfl
  have z7:b.cell? ⟨wr.heap.size,7,none⟩=some (bR P e.ar.length O):=by rw[S.cell 7];subst o;rfl
  have z9:b.cell? ⟨wr.heap.size,9,none⟩=some (bR A2 a.ph.length c2):=by rw[S.cell 9];subst o;rfl
  have G:=(lg.o b D).2.1;have ba:=V.size;obtain⟨r,hr⟩:=af (eG (bU N K n (cZ N K n)) 7 [e]);obtain⟨s,ao⟩:=af (rZ (bU N K n (cZ N K n)) nl true a.ph);rw[hr,ao] at HD;have aE:=qh VS;have KS:=qh (show ∀ w',EG b w'->Calls Tryz.prog 112 #[bS (some ⟨F,0,none⟩),bR A2 a.ph.length c2,bL bN n,bX true] w' λ e j=>e = b0 (bL bN s)/\EG w' j from λ w' t =>
   ao▸KP.o w' a.ph A2 c2 B0 (D.trans (t.mono D.size)) (aE.o.keep ((V.mono (b4 E hs)).trans (t.mono (b4 E D.size)))) (b4 E (b4 D.size t.size)))
  obtain⟨I,hI⟩:=af (cZ N K n);rw[hI] at hr;have ar:=qh (show ∀ w',EG b w'->Calls Tryz.prog 169 #[bS (some ⟨gb,0,none⟩),bL bN n] w' λ e j=>(∃ v,e = b0 v/\(∃ A c,v = bR A I.length c/\fJ j j.heap.size A I/\((A=none/\c=0/\I = [])\/(∃ m,I = [m]))))/\EG w' j from λ w' t=>hI▸KI.o w' (D.trans (t.mono D.size)));have aA:=qh (show ∀ w' g X c6,EG b w'->ag w' g 67 (BC e T Q P e.ar.length O)->fJ w' w'.heap.size X I->((X=none/\c6=0/\I = [])\/(∃ m,I = [m]))->Calls Tryz.prog 117 #[bS (some ⟨F,0,none⟩),bR (some ⟨g,0,none⟩) 1 1,bL bN n,bR X I.length c6] w' λ en j=>en = b0 (bL bN r)/\EG b j from λ w' g X c6 t aq VP y=>by
   have h:=KB.o w' [e] (some ⟨g,0,none⟩) 1 w'.heap.size I X c6 (D.trans (t.mono D.size)) ⟨(show 1<=maxLen by decide),az e T Q P O,⟨rfl,λ _=>⟨_,rfl,aq.lt,gU (cs:=az e T Q P O) aq⟩⟩,λ i hi=>by
    obtain rfl:i=0:=by simpa using hi
    exact (ap.o.keep ((V.mono (b4 E hs)).trans (t.mono (b4 E D.size)))).up (b4 E (b4 D.size t.size))⟩ (co _) (λ x hx=>by rw[List.mem_singleton] at hx;rw[hx];exact lL.o) VP y
   rw[hr] at h;exact h.mono λ _ _ ⟨h1,h2⟩=>⟨h1,t.trans (h2.mono t.size)⟩)
  have J:=Below.refl b.heap.size b;have FK:=qh (show ∀ w',EG b w'->w'.cell? ⟨F,0,none⟩=some (bS (some ⟨gb,0,none⟩))/\w'.cell? ⟨wr.heap.size,0,none⟩=some (bL bN e.k)/\w'.cell? ⟨wr.heap.size,1,none⟩=some (bL bN e.op)/\w'.cell? ⟨wr.heap.size,2,none⟩=some (bO e.nm)/\w'.cell? ⟨wr.heap.size,3,none⟩=some (bL bN e.v.k)/\w'.cell? ⟨wr.heap.size,4,none⟩=some (bL bN e.v.n)/\w'.cell? ⟨wr.heap.size,5,none⟩=some (bO e.v.s)/\w'.cell? ⟨wr.heap.size,6,none⟩=some (bR T e.v.l.length Q)/\w'.cell? ⟨wr.heap.size,7,none⟩=some (bR P e.ar.length O)/\EG b w' from λ w' t=>⟨Below.cell_of t G,Below.cell_of t z0,Below.cell_of t z1,Below.cell_of t z2,Below.cell_of t z3,Below.cell_of t z4,Below.cell_of t z5,Below.cell_of t z6,Below.cell_of t z7,t⟩);have OU:=qh z9;clear z U he o a7 VS hr ao hI DW S z9;go_upto_region 8 with (fail);clear NC ab;go_region_held3 (λ w'=>w'.cell? ⟨F,0,none⟩=some (bS (some ⟨gb,0,none⟩))/\w'.cell? ⟨wr.heap.size,0,none⟩=some (bL bN e.k)/\w'.cell? ⟨wr.heap.size,1,none⟩=some (bL bN e.op)/\w'.cell? ⟨wr.heap.size,2,none⟩=some (bO e.nm)/\w'.cell? ⟨wr.heap.size,3,none⟩=some (bL bN e.v.k)/\w'.cell? ⟨wr.heap.size,4,none⟩=some (bL bN e.v.n)/\w'.cell? ⟨wr.heap.size,5,none⟩=some (bO e.v.s)/\w'.cell? ⟨wr.heap.size,6,none⟩=some (bR T e.v.l.length Q)/\w'.cell? ⟨wr.heap.size,7,none⟩=some (bR P e.ar.length O)/\EG b w')
   (first | exact FK.o _ J | exact FK.o _ J.drew | exact FK.o _ (J.trans (aB b _)).drew | exact FK.o _ u | exact FK.o _ u.drew | exact FK.o _ (u.trans ((aB w6 _).mono u.size)) | exact FK.o _ H)
   (first
    | (go_at_call 169;(with_reducible refine (ar.o _ J.drew).mono ?_);rintro e6 w6 ⟨⟨v6,rfl,X,c6,rfl,VP,y⟩,C⟩;have u:=J.drew.trans C;have L:=qh (b9 VP y);clear VP y C)
    | (go_at_call 169;(with_reducible refine (ar.o _ (aB b _).drew).mono ?_);rintro e6 w6 ⟨⟨v6,rfl,X,c6,rfl,VP,y⟩,C⟩;have u:=(aB b _).drew.trans (C.mono (aB b _).size);have L:=qh (b9 VP y);have a6:=qh (show ag w6 b.heap.size 67 (BC e T Q P e.ar.length O) from (show ag (b.alloc _).drew b.heap.size 67 (BC e T Q P e.ar.length O) from ag.new b _ _).below C (ag.new b 67 (BC e T Q P e.ar.length O)).lt);clear VP y C)
    | (go_at_call 117;(with_reducible refine (aA.o _ _ X c6 u a6.o L.o.1 L.o.2).mono ?_);rintro e7 w7 ⟨rfl,H⟩)
    | (go_at_call 117;(with_reducible refine (aA.o _ _ X c6 (u.trans ((aB w6 _).mono u.size)) (ag.new w6 _ _) ((L.o.1.keep (aB w6 _)).Qe (λ _ _ h=>h.up (aB w6 _).size) (aB w6 _).size) L.o.2).mono ?_);rintro e7 w7 ⟨rfl,H⟩))
  all_goals
   have Zz:=D.trans (H.mono D.size);by_cases h0:r=0
   case neg =>
    have HE:=qh (HD.o.trans (if_pos h0));obtain⟨g0,ak⟩:=gp h0;clear h0;go_wp2;go_ret;exact⟨ai HE.o.symm,Zz⟩
   have aw:=qh (HD.o.trans (if_neg (λ h=>h h0)));obtain⟨g0,ak⟩:=jf h0;have z9:=Below.cell_of H OU.o;clear h0;by_cases h1:s=0
   case' pos =>
    have HE:=qh (aw.o.trans (if_neg (λ h=>h h1)));obtain⟨g1,a5⟩:=jf h1
   case' neg =>
    have HE:=qh (aw.o.trans (if_pos h1));obtain⟨g1,a5⟩:=gp h1
   all_goals
    clear h1;go_wp2_with (go_at_call 112;(with_reducible refine (KS.o _ H).mono ?_);rintro e8 w8 ⟨rfl,a2⟩;have ax:=Zz.trans (a2.mono Zz.size))
    first
     | (go_ret
        exact⟨ai HE.o.symm,ax⟩)
     | (go_roundw
        case rel=>exact⟨k+1,by go_num,aX.o,HE,ax⟩
        case measure =>
         have:=aX.o;simp[intOf];omega)
end Go.Proofs.YtcnagconagpkcaaGreatDoor
