/- Lemmas. -/
import Derived.Test.YtcnagconagpkcaaGreatDoorZ18
import Derived.Maps.AppendAt
set_option maxHeartbeats 4000000
set_option maxRecDepth 100000
open Go.Value renaming int->bL, string->bO, slice->bR, pointer->bS, bool->bX, oneCell'->cc
open Go.IntKind renaming i64->bN
open Go.Obj renaming cells->bT
open Go.Ending renaming returned->b0
open Nat renaming le_refl->b3, le_trans->b6, zero_le->b7, not_lt_zero->ci
open List renaming length_append->b4, length_drop->b5, length_cons->cb, drop_eq_nil_of_le->ce, mem_cons->cg, nil_append->ch, drop_eq_getElem_cons->cj, length_tail->ck, mem_append->cl
open Option renaming map->ca
open Decidable renaming byContradiction->cf
namespace Go.Proofs.YtcnagconagpkcaaGreatDoor
open Go.RowKit Vtx
attribute [local go_sem ↓] Go.wp_at_zero Go.wp_at_succ
def Zn (w:World) (s:ByteArray) (r:xQ) (e:Ending) (w':World):Prop:=match r with
 | .ok es []=>∃ x cs,es = [x]/\e = b0 (.tuple #[.agg cs.toArray,bL bN 0,bL bN 0])/\cO w' (λ b=>w.heap.size<=b) w'.heap.size x cs/\EG w w'
 | .ok _ (t :: _)=>e = b0 (.tuple #[.agg #[bL bN 0,bL bN 0,bO ⟨#[]⟩,bL bN 0,bL bN 0,bO ⟨#[]⟩,bR none 0 0,bR none 0 0],bL bN (t.at_:Nat),bL bN 10])/\EG w w'
 | .err k=>e = b0 (.tuple #[.agg #[bL bN 0,bL bN 0,bO ⟨#[]⟩,bL bN 0,bL bN 0,bO ⟨#[]⟩,bR none 0 0,bR none 0 0],bL bN (k:Nat),bL bN 10])/\EG w w'
theorem VJ (s:ByteArray) (w:World) (hs:s.size<=4000) (P:Tab w) (hm:Mx w):Calls Tryz.prog 232 #[bO s] w λ e w'=>Zn w s (Pz s.data.toList.length .or [] (wordsOf s.data.toList 0)) e w':=by
 have bp:∀ (fn:Fn) (first ab:Array Value) (w:World),(Instr.makeFunc fn first ab).run Tryz.prog w = .ok (.func fn first ab) w:=λ _ _ _ _=>rfl;have o8:=qh (And.intro P hm);obtain⟨r,hr⟩:=af (Pz s.data.toList.length .or [] (wordsOf s.data.toList 0));rw[hr];have HR:=qh hr;clear P hm hr
 go_enter_defers Tryz.func232,Tryz.ntmps232
 go_upto_region 3 with (fail);obtain⟨b1,aq⟩:=af (w.heap.size+1);rw[aq];obtain⟨b2,ak⟩:=af (b1+1);rw[ak];obtain⟨g,hg⟩:=af (b2+1);rw[hg];obtain⟨wa,D⟩:=aH (w.alloc (bT #[bL bN 0,bL bN 0,bO ⟨#[]⟩,bL bN 0,bL bN 0,bO ⟨#[]⟩,bR none 0 0,bR none 0 0] 67 (0,0)));obtain⟨wb,I⟩:=aH (wa.alloc (bT #[bL bN 0] 3 (0,0)));obtain⟨wc,G⟩:=aH (wb.alloc (bT #[bL bN 0] 28 (0,0)));obtain⟨W,hW⟩:=aH (wc.alloc (bT #[bO s,bL bN 0,bO ⟨#[]⟩,bX false] 346 (0,0)));have aa:wa.heap.size=b1:=by rw[D,<- aq];simp
 have H:wb.heap.size=b2:=by rw[I,<- ak,<- aa];simp
 have ac:wc.heap.size=g:=by rw[G,<- hg,<- H];simp
 have d:ZB wa w.heap.size:=by rw[D];exact ag.new w _ _
 have L:ag wb b1 3 #[bL bN 0]:=by rw[I,<- aa];exact ag.new wa _ _
 have V:ag wc b2 28 #[bL bN 0]:=by rw[G,<- H];exact ag.new wb _ _
 have BG:ag W g 346 #[bO s,bL bN ((0:Nat):Int),bO ⟨#[]⟩,bX false]:=by rw[hW,<- ac];exact ag.new wc _ _
 have i:EG wa wb:=by rw[I];exact (Below.refl _ _).alloc (b3 _) _
 have m:EG wb wc:=by rw[G];exact (Below.refl _ _).alloc (b3 _) _
 have F:EG wc W:=by rw[hW];exact (Below.refl _ _).alloc (b3 _) _
 have Zo:EG w wa:=by rw[D];exact (Below.refl _ _).alloc (b3 _) _
 have n:EG w W:=((Zo.trans (i.mono Zo.size)).trans (m.mono (b6 Zo.size i.size))).trans (F.mono (b6 Zo.size (b6 i.size m.size)));have ar:=qh (((d.below i d.lt).below m (d.below i d.lt).lt).below F ((d.below i d.lt).below m (d.below i d.lt).lt).lt);have ax:=qh ((L.below m L.lt).below F (L.below m L.lt).lt);have aw:=qh (V.below F V.lt);have a0:=qh BG;have xU:=qh (show TM W g from ⟨w,o8.o.1,o8.o.2,by omega,n⟩);rw[<- D,<- I,<- G,<- hW];clear D I G hW d L V BG i m F Zo aa H ac;have Zp:w.heap.size≠b1:=by omega
 have Zq:w.heap.size≠b2:=by omega
 have N:b1≠b2:=by omega
 have Dy:=qh (show Calls Tryz.prog 254 #[bS (some ⟨g,0,none⟩)] W λ e w'=>e = b0 (.tuple #[])/\aP w' g s 0/\Kp g W w' from Zm g s 0 ⟨#[]⟩ false W a0.o (b7 _) hs);go_wp2_with (go_at_call 254;(with_reducible refine Dy.o.mono ?_);rintro e w1 ⟨rfl,am,T⟩);have LU:=qh am;have LP:=qh T;have HC:=aeI s (wordsOf s.data.toList 0) g 0 w1 LU.o (xU.o.kp T) rfl;rw[HR.o] at HC;refine HC.mono ?_;clear HC am T Dy;cases r with
 | err k =>
  rintro e A ⟨rfl,M⟩;have z:=LP.o.trans M;have l:=qh (show St A w.heap.size b1 b2 #[bL bN 0,bL bN 0,bO ⟨#[]⟩,bL bN 0,bL bN 0,bO ⟨#[]⟩,bR none 0 0,bR none 0 0] (bL bN 0) (bL bN 0) A from ⟨ar.o.kp z (by omega),ax.o.kp z (by omega),aw.o.kp z (by omega),rfl,rfl,rfl,b3 _,λ _ _ _ _ _=>rfl⟩);have X:=qh (n.trans (z.below (by omega) n.size));go_wp2_with fail;refine leaves_cons (f:=253) (args:=#[bS (some ⟨w.heap.size,0,none⟩),bS (some ⟨b1,0,none⟩),bS (some ⟨b2,0,none⟩)]) (by simp) (by simp[go_sem]) ?_;refine (Jj A w.heap.size b1 b2 k Zp Zq N (bL bN 0) (bL bN 0) (bO ⟨#[]⟩) (bL bN 0) (bL bN 0) (bO ⟨#[]⟩) (bR none 0 0) (bR none 0 0) (bL bN 0) (bL bN 0) [] l.o).mono ?_;rintro e u' O ⟨rfl,rfl,a⟩;have bx:=qh a;have R:=a.c0;have Q:=a.c1;have S:=a.c2;obtain⟨iK,iL,iM,iQ,iR,iT,iU,iC⟩:=ag.c8 R;have J:O.cell? ⟨b1,0,none⟩=some (bL bN (k:Nat)):=Q.cell 0;have E:O.cell? ⟨b2,0,none⟩=some (bL bN 10):=S.cell 0;have Y:=qh (show EG w O from X.o.trans (show Below w.heap.size A O from ⟨a.os,a.tape,a.output,a.size,λ k' a6=>a.far k' (Nat.lt_of_lt_of_le a6 X.o.size) (by omega) (by omega) (by omega)⟩));clear a R Q S;refine⟨.tuple #[.agg #[bL bN 0,bL bN 0,bO ⟨#[]⟩,bL bN 0,bL bN 0,bO ⟨#[]⟩,bR none 0 0,bR none 0 0],bL bN (k:Nat),bL bN 10],by simp[results,Tryz.results232,go_sem,iK,iL,iM,iQ,iR,iT,iU,iC,J,E],rfl,Y.o⟩
 | ok es l1 =>
  rintro e A ⟨x,Z,bq,rfl,rfl,rfl,ap,an,M⟩;have Uz:=qh ap;obtain⟨bj,bg,a8,H,a2,a4,ay⟩:=ap;rename_i y o p u bA;clear a2 a4 ay bj bg a8 H;have Zk:(az x y o p u).toArray = (BC x y o p x.ar.length u):=rfl;rw[Zk];clear Zk;have z:=LP.o.trans M;have ba:=qh an;have ad:=qh (ar.o.kp z (by omega));have aA:=qh (ax.o.kp z (by omega));have bc:=qh (aw.o.kp z (by omega));have X:=qh (n.trans (z.below (by omega) n.size));have bl:w.heap.size<=W.heap.size:=n.size;have bk:W.heap.size<=w1.heap.size:=LP.o.size;have bt:g<w1.heap.size:=LU.o.b.lt;have B0:=ad.o;clear z an M n;obtain⟨dM,jY,eQ,jZ,gW,oH,gX,oI,jM,yw,jO,yx,jP,yz,jQ,yA⟩:=ag.z8 B0;go_upto_region 5 with (fail);obtain⟨c,C⟩:=aH (kT A w.heap.size (bL bN x.k) (bL bN x.op) (bO x.nm) (bL bN x.v.k) (bL bN x.v.n) (bO x.v.s) (bR y x.v.l.length o) (bR p x.ar.length u));have U:=qh (show aP c g s Z by rw[C];exact ba.o.kp (fF _ _ _ _ _ _ _ _ _ _ g (by omega)));have l:=qh (show St A w.heap.size b1 b2 (BC x y o p x.ar.length u) (bL bN 0) (bL bN 0) c by
   rw[C];exact St.set0 (show St A w.heap.size b1 b2 #[bL bN 0,bL bN 0,bO ⟨#[]⟩,bL bN 0,bL bN 0,bO ⟨#[]⟩,bR none 0 0,bR none 0 0] (bL bN 0) (bL bN 0) A from ⟨ad.o,aA.o,bc.o,rfl,rfl,rfl,b3 _,λ _ _ _ _ _=>rfl⟩) Zp Zq (bL bN x.k) (bL bN x.op) (bO x.nm) (bL bN x.v.k) (bL bN x.v.n) (bO x.v.s) (bR y x.v.l.length o) (bR p x.ar.length u))
  have aM:=qh (show cO c (λ b=>w1.heap.size<=b) c.heap.size x (az x y o p u) by rw[C];exact Eg Uz.o (λ k z=>by omega) _ _ _ _ _ _ _ _);dsimp only[kT] at C;rw[<- C];clear C dM eQ gW gX jM jO jP jQ  B0;cases ht:dG s.data.toList Z with
  | none =>
   have av:=qp ht;have bd:=qh av;have a1:c.cell? ⟨g,2,none⟩=some (bO ⟨#[]⟩):=by
    have h:=U.o.b.cell 2;rw[show aK s Z = [] from by unfold aK;rw[ht]] at h;exact h
   have B0:=l.o.c0;have B1:=l.o.c1;have B2:=l.o.c2;obtain⟨lC,bw,aD,bE,a9,bo,bi,bK,be,bv,a7,bB,bh,bs,a5,bn⟩:=ag.z8 B0;have aL:c.cell? ⟨b1,0,none⟩=some (bL bN 0):=B1.cell 0;have aR:c.frozen? ⟨b1,0,none⟩=false:=B1.frozen 0;have aE:c.cell? ⟨b2,0,none⟩=some (bL bN 0):=B2.cell 0;have bb:c.frozen? ⟨b2,0,none⟩=false:=B2.frozen 0;clear ht av;go_wp2_with fail;refine leaves_cons (f:=253) (args:=#[bS (some ⟨w.heap.size,0,none⟩),bS (some ⟨b1,0,none⟩),bS (some ⟨b2,0,none⟩)]) (by simp) (by simp[go_sem]) ?_;refine (Zl _ _ _ _).mono ?_;rintro e u' O ⟨rfl,rfl,rfl⟩;obtain⟨W9,iF⟩:=aH (((kT c w.heap.size (bL bN x.k) (bL bN x.op) (bO x.nm) (bL bN x.v.k) (bL bN x.v.n) (bO x.v.s) (bR y x.v.l.length o) (bR p x.ar.length u)).setCell ⟨b1,0,none⟩ (bL bN 0)).setCell ⟨b2,0,none⟩ (bL bN 0));have j:=qh (show St c w.heap.size b1 b2 (BC x y o p x.ar.length u) (bL bN 0) (bL bN 0) W9 by
    rw[iF];exact ((St.set0 (show St c w.heap.size b1 b2 (BC x y o p x.ar.length u) (bL bN 0) (bL bN 0) c from ⟨l.o.c0,l.o.c1,l.o.c2,rfl,rfl,rfl,b3 _,λ _ _ _ _ _=>rfl⟩) Zp Zq (bL bN x.k) (bL bN x.op) (bO x.nm) (bL bN x.v.k) (bL bN x.v.n) (bO x.v.s) (bR y x.v.l.length o) (bR p x.ar.length u)).set1 Zp N (bL bN 0)).set2 Zq N (bL bN 0))
   dsimp only[kT] at iF;rw[<- iF];clear iF lC aD a9 bi be a7 bh a5 aL aR aE bb B0 B1 B2;have R:=j.o.c0;have Q:=j.o.c1;have S:=j.o.c2;obtain⟨iK,iL,iM,iQ,iR,iT,iU,iC⟩:=ag.c8 R;have J:W9.cell? ⟨b1,0,none⟩=some (bL bN 0):=Q.cell 0;have E:W9.cell? ⟨b2,0,none⟩=some (bL bN 0):=S.cell 0;have Zr:w.heap.size<=A.heap.size:=X.o.size;have Gj:A.heap.size<=c.heap.size:=l.o.size;have aX:=qh ((X.o.trans (l.o.toBelow (B:=w.heap.size) Zr (b3 _) (by omega) (by omega))).trans (j.o.toBelow (B:=w.heap.size) (by omega) (b3 _) (by omega) (by omega)));have a3:=qh (((aM.o.keep (w':=W9) ⟨j.o.size,λ k z hl=>j.o.far k hl (by omega) (by omega) (by omega)⟩).up j.o.size).imp (q:=λ b=>w.heap.size<=b) (λ k z _=>by omega));clear R Q S;refine⟨.tuple #[.agg (BC x y o p x.ar.length u),bL bN 0,bL bN 0],by simp[results,Tryz.results232,go_sem,iK,iL,iM,iQ,iR,iT,iU,iC,J,E],?_⟩;show Zn w s (.ok [x] (wordsOf s.data.toList Z)) _ _;rw[bd.o];exact⟨x,az x y o p u,rfl,rfl,a3.o,aX.o⟩
  | some t =>
   obtain⟨ea,et,-⟩:=jU ht;have K:wordsOf s.data.toList Z=t :: wordsOf s.data.toList (t.at_+t.tx.length):=by rw[gZ,ht]
   have bf:=qh K;have br:=qh ea;obtain⟨v,hv⟩:=af (tb t.tx);have a1:c.cell? ⟨g,2,none⟩=some (bO v):=by
    have h:=U.o.b.cell 2;rw[et,hv] at h;exact h
   have bm:v.toList.isEmpty=false:=by
    have ao:=(fP ht).2.2.1;have ae:0<v.size:=by rw[<- hv,kS];exact ao
    cases h:v.toList.isEmpty with
    | false=>rfl
    | true =>
     have h1:v.toList = []:=List.isEmpty_iff.1 h;have h2:(v.toList == (⟨#[]⟩:ByteArray).toList)=true:=by rw[h1];simp
     have h3:(v.toList == (⟨#[]⟩:ByteArray).toList)=false:=dR (λ e=>by rw[e] at ae;exact absurd ae (by decide));rw[h3] at h2;cases h2
   have al:=qh (gV g s Z c U.o);rw[ea] at al;have aZ:=qh (show St c w.heap.size b1 b2 (BC x y o p x.ar.length u) (bL bN 0) (bL bN 0) c from ⟨l.o.c0,l.o.c1,l.o.c2,rfl,rfl,rfl,b3 _,λ _ _ _ _ _=>rfl⟩);clear ea et K hv ht;go_wp2_with (go_at_call 256;(with_reducible refine al.o.mono ?_);rintro e w4 ⟨rfl,rfl⟩);refine leaves_cons (f:=253) (args:=#[bS (some ⟨w.heap.size,0,none⟩),bS (some ⟨b1,0,none⟩),bS (some ⟨b2,0,none⟩)]) (by simp) (by simp[go_sem]) ?_;refine (Jj c w.heap.size b1 b2 t.at_ Zp Zq N (bL bN x.k) (bL bN x.op) (bO x.nm) (bL bN x.v.k) (bL bN x.v.n) (bO x.v.s) (bR y x.v.l.length o) (bR p x.ar.length u) (bL bN 0) (bL bN 0) [] aZ.o).mono ?_;rintro e u' O ⟨rfl,rfl,a⟩;have R:=a.c0;have Q:=a.c1;have S:=a.c2;obtain⟨iK,iL,iM,iQ,iR,iT,iU,iC⟩:=ag.c8 R;have J:O.cell? ⟨b1,0,none⟩=some (bL bN (t.at_:Nat)):=Q.cell 0;have E:O.cell? ⟨b2,0,none⟩=some (bL bN 10):=S.cell 0;have Zr:w.heap.size<=A.heap.size:=X.o.size;have Gj:A.heap.size<=c.heap.size:=l.o.size;have Y:=qh ((X.o.trans (l.o.toBelow (B:=w.heap.size) Zr (b3 _) (by omega) (by omega))).trans (a.toBelow (B:=w.heap.size) (by omega) (b3 _) (by omega) (by omega)));clear a R Q S;refine⟨.tuple #[.agg #[bL bN 0,bL bN 0,bO ⟨#[]⟩,bL bN 0,bL bN 0,bO ⟨#[]⟩,bR none 0 0,bR none 0 0],bL bN (t.at_:Nat),bL bN 10],by simp[results,Tryz.results232,go_sem,iK,iL,iM,iQ,iR,iT,iU,iC,J,E],?_⟩;show Zn w s (.ok [x] (wordsOf s.data.toList Z)) _ _;rw[bf.o];exact⟨rfl,Y.o⟩
def adh (w:World) (p:Ex × Nat × Int) (e:Ending) (w':World):Prop:=
 ∃ A1 c1 A2 c2,e = b0 (.tuple #[.agg (az p.1 A1 c1 A2 c2).toArray,bL bN (p.2.1:Nat),bL bN p.2.2])/\cO w' (λ b=>w.heap.size<=b) w'.heap.size p.1 (az p.1 A1 c1 A2 c2)/\EG w w'
theorem Kw (w:World) (p:Nat->Prop):cO w p w.heap.size (.mk 0 0 ⟨#[]⟩ jr []) (az (.mk 0 0 ⟨#[]⟩ jr []) none 0 none 0):=
 cO.mk (e:=.mk 0 0 ⟨#[]⟩ jr []) (cs:=[]) (show 0<=maxLen from b7 _) (show 0<=maxLen from b7 _) (show 0<=maxLen from b7 _) (show 0<=maxLen from b7 _) ⟨Reads.none_,λ _ ad e=>by cases e⟩ ⟨Reads.none_,λ _ ad e=>by cases e⟩ (λ i a=>absurd a (by simp[Ex.ar]))
theorem uM {w w':World} {at_:Nat} {f:Int} (a:EG w w'):adh w (.mk 0 0 ⟨#[]⟩ jr [],at_,f) (b0 (.tuple #[.agg #[bL bN 0,bL bN 0,bO ⟨#[]⟩,bL bN 0,bL bN 0,bO ⟨#[]⟩,bR none 0 0,bR none 0 0],bL bN (at_:Nat),bL bN f])) w':=
 ⟨none,0,none,0,rfl,Kw w' _,a⟩
theorem qA {w w':World} (h:EG w w') (b g e a d f c i:Value):EG w (kT w' w.heap.size b g e a d f c i):=
 (((((((h.setCell (p:=⟨w.heap.size,0,none⟩) (b3 _) _).setCell (p:=⟨w.heap.size,1,none⟩) (b3 _) _).setCell (p:=⟨w.heap.size,2,none⟩) (b3 _) _).setCell (p:=⟨w.heap.size,3,none⟩) (b3 _) _).setCell (p:=⟨w.heap.size,4,none⟩) (b3 _) _).setCell (p:=⟨w.heap.size,5,none⟩) (b3 _) _).setCell (p:=⟨w.heap.size,6,none⟩) (b3 _) _).setCell (p:=⟨w.heap.size,7,none⟩) (b3 _) _
theorem Jk (s:List UInt8) (h:s.length<=4000):lV s=(match Pz s.length .or [] (wordsOf s 0) with
  | .err k=>(.mk 0 0 ⟨#[]⟩ jr [],k,10)
  | .ok _ (t :: _)=>(.mk 0 0 ⟨#[]⟩ jr [],t.at_,10)
  | .ok es []=>if dZ (es.getD 0 (.mk 0 0 ⟨#[]⟩ jr []))≠0 then (.mk 0 0 ⟨#[]⟩ jr [],0,dZ (es.getD 0 (.mk 0 0 ⟨#[]⟩ jr []))) else (es.getD 0 (.mk 0 0 ⟨#[]⟩ jr []),0,0)):=by
 unfold lV;rw[if_neg (by omega),U8];obtain⟨r,a⟩:=af (Pz s.length .or [] (wordsOf s 0));rw[a];cases r with
 | err k=>rfl
 | ok es l=>cases l <;> rfl
theorem VK (s:ByteArray) (w:World) (an:s.size<=maxLen) (i:Tab w) (T:Mx w) (hp:s.size<=4000->∀ x,Pz s.data.toList.length .or [] (wordsOf s.data.toList 0) = .ok [x] []->x.parts<=100000000) :
  Calls Tryz.prog 209 #[bO s] w λ e w'=>adh w (lV s.data.toList) e w':=by
 have o8:=qh (And.intro i T);clear i T;by_cases M:s.size<=4000
 .have n:=qh (Jk s.data.toList (by rw[aT];exact M));have Q:=qh (hp M);obtain⟨R,P⟩:=af (lV s.data.toList);rw[P] at n ⊢;obtain⟨r,hr⟩:=af (Pz s.data.toList.length .or [] (wordsOf s.data.toList 0));have HC:=qh (λ W i T=>VJ s W M i T);rw[hr] at n HC Q;have aa:¬ (4000:Int)<((s.size:Nat):Int):=by omega
  clear P hr hp;go_enter Tryz.func209,Tryz.ntmps209;go_upto_region 1 with (fail);obtain⟨W,O,-,L,am,-,g⟩:=YJ 0 w;rw[<- O];clear O;go_wp2_with fail;refine (HC.o W (o8.o.1.below g) (o8.o.2.below g)).mono ?_;intro e K I;cases r with
  | err k =>
   obtain⟨rfl,d⟩:=I;have c:R=(.mk 0 0 ⟨#[]⟩ jr [],k,10):=n.o;have jI:=qh c;have C:=g.trans (d.mono g.size);have J:=L.o.below d L.o.lt;clear c d;go_upto_region 4 with (fail);obtain⟨W1,a⟩:=aH (K.alloc (bT #[bL bN 0,bL bN 0,bO ⟨#[]⟩,bL bN 0,bL bN 0,bO ⟨#[]⟩,bR none 0 0,bR none 0 0] 67 (0,0)));have j:EG w W1:=by rw[a];exact C.alloc C.size _
   have h:ZB W1 w.heap.size:=by rw[a];exact J.alloc _
   rw[<- a];clear a;obtain⟨F,X,G,V,D,Y,z,oI,B,S,u,yx,o,U,q,Z⟩:=ag.z8 h;go_wp2_with fail;refine bodyPost_ret (v:=.tuple #[.agg #[bL bN 0,bL bN 0,bO ⟨#[]⟩,bL bN 0,bL bN 0,bO ⟨#[]⟩,bR none 0 0,bR none 0 0],bL bN (k:Nat),bL bN 10]) (by simp[results,Tryz.results209,go_sem,F,G,D,z,B,u,o,q]) rfl ?_;rw[jI.o];exact uM (qA j _ _ _ _ _ _ _ _)
  | ok es l =>
   cases l with
   | cons t l =>
    obtain⟨rfl,d⟩:=I;have c:R=(.mk 0 0 ⟨#[]⟩ jr [],t.at_,10):=n.o;have jI:=qh c;have C:=g.trans (d.mono g.size);have J:=L.o.below d L.o.lt;clear c d;go_upto_region 4 with (fail);obtain⟨W1,a⟩:=aH (K.alloc (bT #[bL bN 0,bL bN 0,bO ⟨#[]⟩,bL bN 0,bL bN 0,bO ⟨#[]⟩,bR none 0 0,bR none 0 0] 67 (0,0)));have j:EG w W1:=by rw[a];exact C.alloc C.size _
    have h:ZB W1 w.heap.size:=by rw[a];exact J.alloc _
    rw[<- a];clear a;obtain⟨F,X,G,V,D,Y,z,oI,B,S,u,yx,o,U,q,Z⟩:=ag.z8 h;go_wp2_with fail;refine bodyPost_ret (v:=.tuple #[.agg #[bL bN 0,bL bN 0,bO ⟨#[]⟩,bL bN 0,bL bN 0,bO ⟨#[]⟩,bR none 0 0,bR none 0 0],bL bN (t.at_:Nat),bL bN 10]) (by simp[results,Tryz.results209,go_sem,F,G,D,z,B,u,o,q]) rfl ?_;rw[jI.o];exact uM (qA j _ _ _ _ _ _ _ _)
   | nil =>
    obtain⟨x,cs,rfl,rfl,hx,d⟩:=I;have ae:=Q.o x rfl;have HX:=qh hx;obtain⟨hn,M,hl,ha,ac,ab,ak⟩:=hx;rename_i E p y A ao;clear ac ab ak hn M hl ha;rw[show (az x E p y A).toArray = (BC x E p y x.ar.length A) from rfl];have C:=g.trans (d.mono g.size);have Ag:=qh (L.o.below d L.o.lt);have al:W.heap.size<=K.heap.size:=d.size;clear d;go_upto_region 4 with (fail);obtain⟨W1,a⟩:=aH (K.alloc (.cells (BC x E p y x.ar.length A) 67 (0,0)));have j:EG w W1:=by rw[a];exact C.alloc C.size _
    have Y3:=qh (show ZB W1 w.heap.size by rw[a];exact Ag.o.alloc _);have Ih:=qh (show ag W1 K.heap.size 67 (BC x E p y x.ar.length A) by rw[a];exact ag.new K _ _);have N:=qh (show cO W1 (λ b=>W.heap.size<=b) W1.heap.size x (az x E p y A) by
     rw[a];exact (HX.o.keep (dI.of ((Below.refl _ _).alloc (b3 _) _))).up (by simp))
    rw[<- a];clear a C;have BX:=Ih.o;obtain⟨iK,iL,iM,iQ,iR,iT,iU,iC⟩:=ag.c8 BX;go_wp2_with fail;refine (nY x W1.heap.size (az x E p y A) W1 N.o.at_ (b3 _) ae).mono ?_;rintro e w2 ⟨rfl,m⟩;obtain⟨f,hf⟩:=af (dZ x);have n:=qh (show R=if f≠0 then (.mk 0 0 ⟨#[]⟩ jr [],0,f) else (x,0,0) from by rw[n.o];show (if dZ x≠0 then (((.mk 0 0 ⟨#[]⟩ jr []:Ex),0,dZ x):Ex × Nat × Int) else (x,0,0))=_;rw[hf]);rw[hf];have H:=j.trans (m.mono j.size);have h:=Y3.o.below m Y3.o.lt;have ad:=Ih.o.below m Ih.o.lt;have Uz:=qh ((N.o.keep (dI.of m)).up m.size);clear hf m iK iL iM iQ iR iT iU iC BX;by_cases hf0:f=0
    .subst hf0;have c:R=(x,0,0):=by rw[n.o,if_neg (by decide)]
     obtain⟨iK,iL,iM,iQ,iR,iT,iU,iC⟩:=ag.c8 ad;obtain⟨F,X,G,V,D,Y,z,oI,B,S,u,yx,o,U,q,Z⟩:=ag.z8 h;go_wp2_with fail;refine bodyPost_ret (v:=.tuple #[.agg (BC x E p y x.ar.length A),bL bN 0,bL bN 0]) (by simp[results,Tryz.results209,go_sem,F,G,D,z,B,u,o,q]) rfl ?_;rw[c];exact⟨E,p,y,A,rfl,(Eg (b:=w.heap.size) Uz.o (λ k hk=>by omega) (bL bN x.k) (bL bN x.op) (bO x.nm) (bL bN x.v.k) (bL bN x.v.n) (bO x.v.s) (bR E x.v.l.length p) (bR y x.ar.length A)).imp (λ k hk _=>by omega),qA H _ _ _ _ _ _ _ _⟩
    .have bf:(f == 0)=false:=by simp[hf0]
     have c:R=(.mk 0 0 ⟨#[]⟩ jr [],0,f):=by rw[n.o,if_pos hf0]
     obtain⟨F,X,G,V,D,Y,z,oI,B,S,u,yx,o,U,q,Z⟩:=ag.z8 h;go_wp2_with fail;refine bodyPost_ret (v:=.tuple #[.agg #[bL bN 0,bL bN 0,bO ⟨#[]⟩,bL bN 0,bL bN 0,bO ⟨#[]⟩,bR none 0 0,bR none 0 0],bL bN 0,bL bN f]) (by simp[results,Tryz.results209,go_sem,F,G,D,z,B,u,o,q]) rfl ?_;rw[c];exact uM (at_:=0) (qA H _ _ _ _ _ _ _ _)
 .have n:=qh (show lV s.data.toList=(.mk 0 0 ⟨#[]⟩ jr [],0,2) by unfold lV;rw[if_pos (by rw[aT];omega)]);have aa:(4000:Int)<((s.size:Nat):Int):=by omega
  obtain⟨R,P⟩:=af (lV s.data.toList);rw[P] at n ⊢;clear P hp;go_enter Tryz.func209,Tryz.ntmps209;go_upto_region 1 with (fail);obtain⟨W,O,-,h,-,-,g⟩:=fA 0 w;rw[<- O];clear O;obtain⟨F,X,G,V,D,Y,z,oI,B,S,u,yx,o,U,q,Z⟩:=ag.z8 h;go_wp2_with fail;refine bodyPost_ret (v:=.tuple #[.agg #[bL bN 0,bL bN 0,bO ⟨#[]⟩,bL bN 0,bL bN 0,bO ⟨#[]⟩,bR none 0 0,bR none 0 0],bL bN 0,bL bN 2]) (by simp[results,Tryz.results209,go_sem,F,G,D,z,B,u,o,q]) rfl ?_;rw[n.o];exact uM (at_:=0) (qA g _ _ _ _ _ _ _ _)
end Go.Proofs.YtcnagconagpkcaaGreatDoor
namespace Go.Proofs.YtcnagconagpkcaaGreatDoor
open Go.RowKit
def zeroE:Ex:=.mk 0 0 ⟨#[]⟩ jr []
def Dz (w:World) (q:Nat->Prop) (p:Bool × Ex) (cs:List Value):Prop:=
 ∃ (t:ByteArray) (es:List Value),cs = [bO t,bX p.1] ++ es/\cO w q w.heap.size p.2 es
theorem Dz.keep {w w':World} {q a:Nat->Prop} {p:Bool × Ex} {cs:List Value} (h:Dz w q p cs) (b:dI q w w') (c:∀ k,q k->k<w.heap.size->a k):Dz w' a p cs:=by
 obtain⟨t,f,e,d⟩:=h;exact⟨t,f,e,((d.keep b).imp c).up b.1⟩
def apart (B:Nat) (v vp:Value) (b:Nat):Prop:=B<=b/\v.ownBlock≠some b/\vp.ownBlock≠some b
structure Ha (B:Nat) (w:World) (v:Value) (P:List (Bool × Ex)) (vp:Value) (acc:List UInt8):Prop where
 row:∃ cs,w.ownsRow B 266 10 v P.length cs/\∀ i (h:i<P.length),Dz w (apart B v vp) P[i] ((cs.drop (i*10)).take 10)
 pl:w.ownsRow B 5 1 vp acc.length (jX acc)
section
variable {w w':World} {B:Nat} {v v' vp vp':Value} {P:List (Bool × Ex)} {acc acc':List UInt8}
theorem Ha.nil:Ha B w (bR none 0 0) [] (bR none 0 0) []:=
 ⟨⟨[],World.ownsRow_nil _ _ _ _,λ i h=>by cases h⟩,World.ownsRow_nil _ _ _ _⟩
theorem Ha.later (h:Ha B w v P vp acc) (a:EG w w'):Ha B w' v P vp acc:=by
 obtain⟨⟨cs,c,f⟩,b⟩:=h;exact⟨⟨cs,dm c a,λ i d=>(f i d).keep (dI.of a) (λ _ e _=>e)⟩,dm b a⟩
theorem Ha.plain (h:Ha B w v P vp acc) (c:w.grownBy w' vp.ownBlock) (g:w'.ownsRow B 5 1 vp' acc'.length (jX acc')) (b:vp'.ownBlock=vp.ownBlock\/vp'.ownBlock=some w.heap.size):Ha B w' v P vp' acc':=by
 obtain⟨⟨cs,j,m⟩,f⟩:=h;refine⟨⟨cs,sD j f (by decide) c,λ i l=>(m i l).keep (dI.grown c (λ k a e=>a.2.2 e.symm)) (λ k a n=>⟨a.1,a.2.1,?_⟩)⟩,g⟩;rcases b with e | e
 .rw[e];exact a.2.2
 .rw[e];intro d;injection d with d;omega
theorem Ha.empty (h:Ha B w v P vp acc):Ha B w v P (bR none 0 0) []:=by
 obtain⟨⟨cs,b,d⟩,-⟩:=h;exact⟨⟨cs,b,λ i c=>(d i c).keep (dI.of (Below.refl _ _)) (λ k a _=>⟨a.1,a.2.1,by simp[Value.ownBlock]⟩)⟩,World.ownsRow_nil _ _ _ _⟩
theorem Ha.push (h:Ha B w v P vp acc) {Q:List (Bool × Ex)} {ds:List Value} {cs:List Value} (f:w.ownsRow B 266 10 v P.length cs) (q:∀ i (h:i<P.length),Dz w (apart B v vp) P[i] ((cs.drop (i*10)).take 10)) (n:ds.length=Q.length*10)
  (o:∀ i (h:i<Q.length),Dz w (apart B v vp) Q[i] ((ds.drop (i*10)).take 10)) (d:w.grownBy w' v.ownBlock) (g:w'.ownsRow B 266 10 v' (P.length+Q.length) (cs ++ ds)) (b:v'.ownBlock=v.ownBlock\/v'.ownBlock=some w.heap.size):Ha B w' v' (P ++ Q) vp acc:=by
 have j:cs.length=P.length*10:=f.1;have a:∀ {p:Bool × Ex} {xs:List Value},Dz w (apart B v vp) p xs->Dz w' (apart B v' vp) p xs:=λ m=>m.keep (dI.grown d (λ k a e=>a.2.1 e.symm)) (λ k a r=>⟨a.1,by
  rcases b with e | e
  .rw[e];exact a.2.1
  .rw[e];intro c;injection c with c;omega,a.2.2⟩)
 refine⟨⟨cs ++ ds,by rw[b4];exact g,λ i l=>?_⟩,sD h.pl f (by decide) d⟩;rw[b4] at l;by_cases hlt:i<P.length
 .rw[List.getElem_append_left hlt,List.drop_append_of_le_length (by omega),List.take_append_of_le_length (by rw[b5];omega)];exact a (q i hlt)
 .have e:(cs ++ ds).drop (i*10)=ds.drop ((i - P.length)*10):=by
   rw[List.drop_append,ce (by omega),ch,j,<- Nat.sub_mul]
  rw[List.getElem_append_right (by omega),e];exact a (o (i - P.length) (by omega))
end
def Q7 (w:World) (B:Nat) (p:Bool × Ex) (cs:List Value):Prop:=∃ (t:ByteArray) (es:List Value),cs = [bO t,bX p.1] ++ es/\aQ w B p.2 es
theorem Ha.at_ {w:World} {B n c:Nat} {A:Option Addr} {P:List (Bool × Ex)} {vp:Value} {acc:List UInt8} (h:Ha B w (bR A n c) P vp acc) (g:P.length<=maxLen):au Q7 10 w w.heap.size A P:=by
 obtain⟨⟨cs,a,q⟩,-⟩:=h;have b:n=P.length:=by
  rcases a.2 with ⟨d,l⟩ | ⟨r,k,j,m,-⟩
  .injection d with _ h4 _;rw[h4,l]
  .injection m with _ h4 _
 subst b;refine⟨g,cs,Reads.fM a,λ i f=>?_⟩;obtain⟨t,o,e,p⟩:=q i f;exact⟨t,o,e,p.at_⟩
def bM (P:List (Bool × Ex)):List Ex:=(P.filter (λ p=>p.1)).map (λ p=>p.2)
theorem wV (P Q:List (Bool × Ex)):bM (P ++ Q)=bM P ++ bM Q:=by unfold bM;rw[List.filter_append,List.map_append]
end Go.Proofs.YtcnagconagpkcaaGreatDoor
namespace Go.Proofs.YtcnagconagpkcaaGreatDoor
theorem mM:∀ (f a:Nat) (r:List UInt8),r.length<f->r.length<a->rf f r=rf a r
 | 0,_,_,h,_=>absurd h (ci _)
 | _+1,0,_,_,h=>absurd h (ci _)
 | f+1,a+1,[],_,_=>by simp only[rf]
 | f+1,a+1,c :: r,h,h'=>by
  simp only[cb] at h h';have b:=mM f a r (by omega) (by omega);have d:=mM f a (r.drop 1) (by rw[b5];omega) (by rw[b5];omega);have e3:=λ k=>mM f a (r.drop (k+1)) (by rw[b5];omega) (by rw[b5];omega);simp only[rf,b,d,e3]
noncomputable def kN (r:List UInt8):Option (List Ex):=rf (r.length+1) r
theorem VL (s:ByteArray):vW s=kN s.data.toList:=by
 unfold vW kN;exact mM _ _ _ (by simp) (by simp)
theorem OO (c:UInt8) (r:List UInt8):kN (c :: r)=if c≠123/\c≠125 then kN r else if r.head?=some c then kN (r.drop 1) else if c=125 then none else
  match qj r false 0 with
  | none=>none
  | some k=>if (lV (r.take k)).2.2≠0 then none else (kN (r.drop (k+1))).map ((lV (r.take k)).1 :: ·):=by
 unfold kN;rw[cb,rf];have a:=mM (r.length+1) ((r.drop 1).length+1) (r.drop 1) (by rw[b5];omega) (by omega);have e3:=λ k=>mM (r.length+1) ((r.drop (k+1)).length+1) (r.drop (k+1)) (by rw[b5];omega) (by omega);simp only[a,e3];cases qj r false 0 <;> rfl
theorem Q8 {s:ByteArray} {j:Nat} (h:j<s.size):kN (s.data.toList.drop j)=if s[j]≠123/\s[j]≠125 then kN (s.data.toList.drop (j+1)) else if (s.data.toList.drop (j+1)).head?=some s[j] then kN (s.data.toList.drop (j+2)) else if s[j]=125 then none else
  match qj (s.data.toList.drop (j+1)) false 0 with
  | none=>none
  | some k=>if (lV ((s.data.toList.drop (j+1)).take k)).2.2≠0 then none else (kN (s.data.toList.drop (j+1+k+1))).map ((lV ((s.data.toList.drop (j+1)).take k)).1 :: ·):=by
 have a:j<s.data.toList.length:=by simpa using h
 rw[cj a,OO];simp only[List.drop_drop];rfl
theorem VM (s:ByteArray):kN (s.data.toList.drop s.size)=some []:=by
 rw[ce (by simp)];rfl
theorem Eh:∀ (r:List UInt8) (q:Bool) (m k:Nat),qj r q m=some k->m<=k/\k<m+r.length
 | [],_,_,_,h=>by simp[qj] at h
 | c :: r,q,m,k,h=>by
  rw[qj] at h;simp only[cb];split at h
  .have:=Eh r _ _ _ h;omega
  .split at h
   .have:=Eh r _ _ _ h;omega
   .split at h
    .injection h with h;omega
    .split at h
     .cases h
     .have:=Eh r _ _ _ h;omega
end Go.Proofs.YtcnagconagpkcaaGreatDoor
namespace Go.Proofs.YtcnagconagpkcaaGreatDoor
open Vtx Go.Lib
theorem lY:∀ a b:List Ex,aI (a ++ b)=aI a+aI b
 | [],b=>by rw[ch,aI];omega
 | x :: r,b=>by rw[List.cons_append,aI,aI,lY r b];omega
theorem dP (x:Ex):aI [x]=x.parts:=by rw[aI,aI];omega
theorem qB (o:Int) (l:List Ex):(kE o l).parts=aI l+1:=parts_eq _
theorem uN (k o:Int) (nm:List UInt8) (l:List Ex):(iH k o nm l).parts=aI l+1:=parts_eq _
theorem DC (v:Val):(kX v).parts=1:=by rw[parts_eq];show aI []+1=1;rw[aI]
theorem yZ:aI []=0:=by rw[aI]
theorem Gw (o:Int) (l:List Ex):aI (Di o l)<=aI l+1:=by
 unfold Di;split
 .rw[dP];omega
 .rw[dP,qB];omega
theorem fZ {r:xQ} {k:List Ex->List Tok->xQ} {b:List Ex} {l':List Tok} (h:r.bind k = .ok b l'):∃ a l1,r = .ok a l1/\k a l1 = .ok b l':=by
 cases r with
 | err p=>cases h
 | ok a l1=>exact⟨a,l1,rfl,h⟩
theorem Ah {l:List Tok} {w:List UInt8} (h:mW l w=true):l.tail.length+1=l.length:=by
 cases l with
 | nil=>cases h
 | cons t r=>rfl
theorem sW {n:Nat} {w:List UInt8} {l:List Tok} {k:List Tok->xQ} {a:List Ex} {l':List Tok} (h:dL n w l k = .ok a l'):l.tail.length+1=l.length/\k l.tail = .ok a l':=by
 unfold dL at h;split at h
 .rename_i b;exact⟨Ah b,h⟩
 .cases h
theorem Gx {a b:Int} {l:List Tok} (h:gJ a b l≠0):l.tail.length+1=l.length:=by
 cases l with
 | nil=>exact absurd rfl (Gf h)
 | cons t r=>rfl
def rE:NT->Nat
 | .or=>2
 | .args _=>2
 | .and=>3
 | .Uu=>0
 | .BP=>0
 | .DL=>0
 | .jH=>0
 | .qc _=>0
 | _=>4
def rF (nt:NT) (acc:List Ex):Nat:=match nt with
 | .Uu=>aI acc+1
 | .BP=>aI acc+1
 | .DL=>aI acc
 | .jH=>aI acc
 | .qc _=>aI acc
 | _=>0
theorem TC (n:Nat):∀ (f:Nat) (q:NT) (acc:List Ex) (l:List Tok) (w:List Ex) (v:List Tok),P n f q acc l = .ok w v->aI w+rE q+6*v.length<=rF q acc+6*l.length
 | 0,_,_,_,_,_,h=>by cases h
 | f+1,q,acc,l,w,v,h=>by
  have d:=TC n f;rw[P] at h;cases q <;> dsimp only[iI] at h <;> dsimp only[rE,rF]
  case or =>
   obtain⟨i,l1,b,a⟩:=fZ h;have c:=d _ _ _ _ _ b;have e:=d _ _ _ _ _ a;dsimp only[rE,rF] at c e;omega
  case Uu =>
   split at h
   .rename_i m;have k:=Ah m;obtain⟨i,l1,b,a⟩:=fZ h;have c:=d _ _ _ _ _ b;have e:=d _ _ _ _ _ a;dsimp only[rE,rF] at c e;rw[lY] at e;omega
   .injection h with b a;have:=Gw 3 acc;rw[<- b,<- a];omega
  case and =>
   obtain⟨i,l1,b,a⟩:=fZ h;have c:=d _ _ _ _ _ b;have e:=d _ _ _ _ _ a;dsimp only[rE,rF] at c e;omega
  case BP =>
   split at h
   .rename_i m;have k:=Ah m;obtain⟨i,l1,b,a⟩:=fZ h;have c:=d _ _ _ _ _ b;have e:=d _ _ _ _ _ a;dsimp only[rE,rF] at c e;rw[lY] at e;omega
   .injection h with b a;have:=Gw 2 acc;rw[<- b,<- a];omega
  case not =>
   split at h
   .rename_i m;have k:=Ah m;obtain⟨i,l1,b,a⟩:=fZ h;have c:=d _ _ _ _ _ b;dsimp only[rE,rF] at c;injection a with a g;rw[<- a,<- g,dP,qB];omega
   .obtain⟨i,l1,b,a⟩:=fZ h;have c:=d _ _ _ _ _ b;dsimp only[rE,rF] at c;split at a
    .injection a with a g;rw[<- a,<- g];omega
    .rename_i p;have k:=Gx p;obtain⟨B,A,g,o⟩:=fZ a;have e:=d _ _ _ _ _ g;dsimp only[rE,rF] at e;injection o with o j;rw[<- o,<- j,dP,qB,lY];omega
  case sum =>
   obtain⟨i,l1,b,a⟩:=fZ h;have c:=d _ _ _ _ _ b;have e:=d _ _ _ _ _ a;dsimp only[rE,rF] at c e;omega
  case DL =>
   split at h
   .injection h with b a;rw[<- b,<- a];omega
   .rename_i p;have k:=Gx p;obtain⟨i,l1,b,a⟩:=fZ h;have c:=d _ _ _ _ _ b;have e:=d _ _ _ _ _ a;dsimp only[rE,rF] at c e;rw[dP,qB,lY] at e;omega
  case product =>
   obtain⟨i,l1,b,a⟩:=fZ h;have c:=d _ _ _ _ _ b;have e:=d _ _ _ _ _ a;dsimp only[rE,rF] at c e;omega
  case jH =>
   split at h
   .injection h with b a;rw[<- b,<- a];omega
   .rename_i p;have k:=Gx p;obtain⟨i,l1,b,a⟩:=fZ h;have c:=d _ _ _ _ _ b;have e:=d _ _ _ _ _ a;dsimp only[rE,rF] at c e;rw[dP,qB,lY] at e;omega
  case minus =>
   split at h
   .rename_i m;have k:=Ah m;split at h
    .split at h
     .split at h
      .injection h with b a;rw[<- b,<- a,dP,DC];simp only[cb];omega
      .cases h
     .cases h
    .obtain⟨i,l1,b,a⟩:=fZ h;have c:=d _ _ _ _ _ b;dsimp only[rE,rF] at c;injection a with a g;rw[<- a,<- g,dP,qB];omega
   .have c:=d _ _ _ _ _ h;dsimp only[rE,rF] at c;omega
  case bK =>
   split at h
   .cases h
   .rename_i t r;rw[cb];split at h
    .cases h
    split at h
    .split at h
     .injection h with b a;rw[<- b,<- a,dP,DC];omega
     .cases h
    split at h
    .obtain⟨i,l1,b,a⟩:=fZ h;have c:=d _ _ _ _ _ b;dsimp only[rE,rF] at c;obtain⟨k,g⟩:=sW a;injection g with g o;rw[<- g,<- o];omega
    split at h
    .cases h
    split at h
    .injection h with b a;rw[<- b,<- a,dP,uN,yZ];omega
    rename_i x;have z:r.tail.length+1=r.length:=by
     cases r with
     | nil=>exact absurd rfl x
     | cons u r'=>rfl
    split at h
    .split at h
     .cases h
     .obtain⟨k,g⟩:=sW h;obtain⟨i,l1,b,a⟩:=fZ g;have c:=d _ _ _ _ _ b;dsimp only[rE,rF] at c;obtain⟨s,j⟩:=sW a;injection j with j h6;rw[<- j,<- h6,dP,uN];have y:r.tail.tail.length<=r.tail.length:=by rw[ck];omega
      omega
    split at h
    .obtain⟨i,l1,b,a⟩:=fZ h;have c:=d _ _ _ _ _ b;dsimp only[rE,rF] at c;obtain⟨s,j⟩:=sW a;injection j with j h6;rw[<- j,<- h6,dP,qB];omega
    split at h
    .split at h
     .cases h
     .obtain⟨k,g⟩:=sW h;injection g with j h6;rw[<- j,<- h6,dP,uN,yZ];have y:r.tail.tail.length<=r.tail.length:=by rw[ck];omega
      omega
    .injection h with b a;rw[<- b,<- a,dP,uN,yZ];omega
  case args =>
   obtain⟨i,l1,b,a⟩:=fZ h;have c:=d _ _ _ _ _ b;have e:=d _ _ _ _ _ a;dsimp only[rE,rF] at c e;omega
  case qc =>
   split at h
   .obtain⟨k,g⟩:=sW h;obtain⟨i,l1,b,a⟩:=fZ g;have c:=d _ _ _ _ _ b;have e:=d _ _ _ _ _ a;dsimp only[rE,rF] at c e;rw[lY] at e;omega
   .injection h with b a;rw[<- b,<- a];omega
theorem Q9 {s:List UInt8} (d:s.length<=4000) {x:Ex} (h:Pz s.length .or [] (wordsOf s 0) = .ok [x] []):x.parts<=100000:=by
 have a:=TC _ _ _ _ _ _ _ h;have c:=xE s (s.length+1) 0;have b:(toks s (s.length+1) 0).length=(wordsOf s 0).length:=rfl;rw[dP] at a;dsimp only[rE,rF] at a;rw[b] at c;simp at a;omega
end Go.Proofs.YtcnagconagpkcaaGreatDoor
namespace Go.Proofs.YtcnagconagpkcaaGreatDoor
open Go.RowKit
attribute [local go_sem ↓] Go.wp_at_zero Go.wp_at_succ
attribute [local go_sem ↓] ld_item st_item ld_node st_node ld_ans st_ans ld_part st_part ld_rule st_rule ld_form st_form
set_option maxHeartbeats 4000000
set_option maxRecDepth 100000
def aeK (R:Option (List Ex)) (e:Ending) (w':World):Prop:=match R with
 | none=>e = b0 (.tuple #[bR none 0 0,bX false])
 | some es=>∃ A P c,e = b0 (.tuple #[bR A P.length c,bX true])/\au Q7 10 w' w'.heap.size A P/\bM P=es/\∀ p∈P,p.2.parts<=300
theorem Zu:(Tryz.prog.info? 266).map (λ i=>(i.zero,i.size,i.bytes))=some (some (.agg #[.string ⟨#[]⟩,.bool false,.int .i64 0,.int .i64 0,.string ⟨#[]⟩,.int .i64 0,.int .i64 0,.string ⟨#[]⟩,.slice none 0 0,.slice none 0 0]),10,136):=by kernel_rfl
theorem Gy {w:World} {B c:Nat} {A:Option Addr} {acc:List UInt8} (f:w.ownsRow B 5 1 (bR A acc.length c) acc.length (jX acc)):(convert 218 9 (bR A acc.length c)).run Tryz.prog w = .ok (bO (tb acc)) w:=by
 rcases f.2 with ⟨k,g⟩ | ⟨d,n,m,o,p,q,e3⟩
 .injection k with a hl hc;subst a;have i:acc = []:=List.length_eq_zero_iff.1 hl;subst i;exact run_convert_bytes_nil w 218 5 Tryz.underlying218 Tryz.underlying5 _ _ _ Tryz.underlying9
 .injection o with a hl hc;subst a;have g:=run_convert_bytes_arg (P:=Tryz.prog) w 218 5 Tryz.underlying218 Tryz.underlying5 d 0 acc.length c (acc.map (λ x=>(x.toNat:Int))) (by simp) (λ j l=>by
   obtain⟨ad,a,-,b⟩:=(Reads.fM f).2 (by omega);injection a with a;subst a;have h:=b j (.int .u8 ((acc.map (λ x=>(x.toNat:Int))).getD j 0)) (by unfold jX;simp[List.getD,l]);have e:(⟨d,0,none⟩:Addr).add j=⟨d,0+j,none⟩:=by unfold Addr.add;split <;> simp_all
   rw[e] at h;exact h) _ Tryz.underlying9
  rw[g];congr 2;unfold tb;refine ByteArray.ext (Array.toList_inj.1 ?_);rw[strOfNums_data,List.map_map]
  conv=>rhs;rw[<- List.map_id acc]
  refine List.map_congr_left (λ x _=>?_);simp
theorem OQ {l:List UInt8} (c:l.length<=4000) {X:Ex} {a:Nat} (h:lV l=(X,a,0)):X.parts<=300:=by
 rw[Jk l c] at h;split at h
 .cases h
 .cases h
 .split at h
  .rename_i b;injection h with h2 h3;injection h3 with h4 h5;exact absurd h5 b
  .rename_i b;injection h with h2 h3;subst h2;exact (NZ (Decidable.not_not.1 b)).2
def ah7 (i:Nat):Option Nat->Int
 | some k=>(i+k:Nat)
 | none=>-1
theorem ack {s:ByteArray} {j:Nat} (h:j+1<s.size):(s.data.toList.drop (j+1)).head?=some s[j+1]:=by
 have a:j+1<s.data.toList.length:=by simpa using h
 rw[cj a];rfl
theorem acm {s:ByteArray} {j:Nat} (h:¬ j+1<s.size):(s.data.toList.drop (j+1)).head?=none:=by
 rw[ce (by simp;omega)];rfl
theorem VN (s:ByteArray) (w:World) (hs:s.size<=4000) (S:Tab w) (aw:Mx w) :
  Calls Tryz.prog 168 #[bO s] w λ e w'=>aeK (vW s) e w'/\EG w w':=by
 obtain⟨i0,av,aq,ay,ar⟩:=info_parts Zg;obtain⟨j0,ax,ao,ak,aA⟩:=info_parts Zu;have o8:=qh (λ w' (l:EG w w')=>And.intro (aF S l) (aw.below l));obtain⟨R,hR⟩:=af (vW s);have HR:=qh (hR.symm.trans (VL s));rw[hR];clear hR S aw;go_enter Tryz.func168,Tryz.ntmps168;go_wp2;go_loopw [6,4,5] (λ i v vp wr=>∃ (j:Nat) (P:List (Bool × Ex)) (acc:List UInt8),i = bL bN j/\j<=s.size/\Hid (Ha w.heap.size wr v P vp acc)/\Hid (R=(kN (s.data.toList.drop j)).map (bM P ++ ·))/\EG w wr/\acc.length<=j/\P.length<=2*j/\Hid (∀ p∈P,p.2.parts<=300)) (λ i _ _ _=>s.size+1 - (intOf i).toNat)
 case atStart=>exact⟨0,[],[],rfl,b7 _,qh Ha.nil,qh (by rw[List.drop_zero,HR.o];cases kN s.data.toList <;> rfl),Below.refl _ _,b3 _,b3 _,qh (λ p hp=>by cases hp)⟩
 case round =>
  obtain⟨j,P,acc,rfl,hj,D,O,l,a6,hP,IM⟩:=hrel;have m:=l.size;obtain⟨Ap,cp,rfl⟩:=jT D.o.pl;obtain⟨aE,U,ap⟩:=D.o.row;obtain⟨Ao,co,rfl⟩:=jT U;have C:=qh (And.intro U ap);clear U ap;by_cases hlt:j<s.size
  .have O:=qh (O.o.trans (congrArg (ca (bM P ++ ·)) (Q8 hlt)));obtain⟨c,hc⟩:=af (s[j]);rw[hc] at O;have aX:=qh hlt;have G:=qh (And.intro (@ack s j) (@acm s j));have i1:IntKind.i64.wrap ((j:Int)+1)=((j+1:Nat):Int):=IntWalk.i64_in _ (by omega);by_cases hA:c≠123/\c≠125
   .have O:=qh (O.o.trans (congrArg (ca (bM P ++ ·)) (if_pos hA)));obtain⟨g1,L⟩:=gp (byF (n:=123) rfl hA.1);obtain⟨g2,aa⟩:=gp (byF (n:=125) rfl hA.2);clear hA;have y:=qh O.o;have A:=D.o.pl.alloc (bT #[.int .u8 (c.toNat:Nat)] 5 (0,0));by_cases h1:j+1<s.size
    case' neg =>
     have u:¬ (j:Int)+1<(s.size:Nat):=by omega
    case' pos =>
     have u:(j:Int)+1<(s.size:Nat):=by omega
     obtain⟨o,B⟩:=af (s[j+1]);obtain⟨b9,jl⟩:=af (((o.toNat:Int) == (c.toNat:Int)))
    all_goals
     go_wp2_with (at_builtin;refine wpList_append_own_at _ rfl _ _ 218 rfl w.heap.size 5 i0 (.int .u8 0) 1 1 Tryz.underlying218 av aq ay ar rfl (by decide) _ acc.length (jX acc) rfl A ⟨wr.heap.size,0,none⟩ 1 1 [.int .u8 (c.toNat:Nat)] rfl rfl (cell_one_new _ _ _) (by simp[cc]) (by unfold maxLen;omega) (by omega) (by have:=l.size;simp;omega) ?_;intro v4 w4 a f _ W);have r:=aB wr (.cells #[.int .u8 (c.toNat:Nat)] 5 (0,0));have q:EG w w4:=(l.trans (r.mono m)).grown f (by simp;omega) (λ g hg=>(A.lt g hg).1);have G7:=qh (show Ha w.heap.size w4 (.slice Ao P.length co) P v4 (acc ++ [c]) from (D.o.later r).plain f (by rw[b4];simpa [jX] using a) W);go_roundw
     case rel=>exact⟨j+1,P,acc ++ [c],by go_num,by omega,G7,y,q,by rw[b4];simp;omega,by omega,IM⟩
     case measure =>
      have:=aX.o
      first | (simp[intOf];done) | (simp[intOf];omega)
   have al:=qh (O.o.trans (congrArg (ca (bM P ++ ·)) (if_neg hA)));by_cases hd:(s.data.toList.drop (j+1)).head?=some c
   .have y:=qh (al.o.trans (congrArg (ca (bM P ++ ·)) (if_pos hd)));have h1:j+1<s.size:=cf λ h=>by rw[G.o.2 h] at hd;cases hd
    have B:s[j+1]=c:=Option.some.inj ((G.o.1 h1).symm.trans hd);have u:(j:Int)+1<(s.size:Nat):=by omega
    have A:=D.o.pl.alloc (bT #[.int .u8 (c.toNat:Nat)] 5 (0,0));have an:((c.toNat:Int) == (c.toNat:Int))=true:=by simp
    clear hd;by_cases T:c=123
    case' pos =>
     obtain⟨g1,L⟩:=jf (byT (n:=123) rfl T)
    case' neg =>
     obtain⟨g1,L⟩:=gp (byF (n:=123) rfl T);obtain⟨g2,aa⟩:=jf (byT (n:=125) (c:=c) (d:=125) rfl (cf λ h=>hA ⟨T,h⟩))
    all_goals clear T hA
    all_goals
     go_wp2_with (at_builtin;refine wpList_append_own_at _ rfl _ _ 218 rfl w.heap.size 5 i0 (.int .u8 0) 1 1 Tryz.underlying218 av aq ay ar rfl (by decide) _ acc.length (jX acc) rfl A ⟨wr.heap.size,0,none⟩ 1 1 [.int .u8 (c.toNat:Nat)] rfl rfl (cell_one_new _ _ _) (by simp[cc]) (by unfold maxLen;omega) (by omega) (by have:=l.size;simp;omega) ?_;intro v4 w4 a f _ W);have r:=aB wr (.cells #[.int .u8 (c.toNat:Nat)] 5 (0,0));have q:EG w w4:=(l.trans (r.mono m)).grown f (by simp;omega) (λ g hg=>(A.lt g hg).1);have G7:=qh (show Ha w.heap.size w4 (.slice Ao P.length co) P v4 (acc ++ [c]) from (D.o.later r).plain f (by rw[b4];simpa [jX] using a) W);go_roundw
     case rel=>exact⟨j+2,P,acc ++ [c],by go_num,by omega,G7,y,q,by rw[b4];simp;omega,by omega,IM⟩
     case measure =>
      have:=aX.o
      first | (simp[intOf];done) | (simp[intOf];omega)
   have aR:=qh (al.o.trans (congrArg (ca (bM P ++ ·)) (if_neg hd)));by_cases zV:c=125
   .have y:=qh (show R=none from aR.o.trans (by rw[if_pos zV];rfl));obtain⟨g1,L⟩:=gp (show ¬ (c.toNat:Int)=123 by rw[zV];decide);obtain⟨g2,aa⟩:=jf (byT (n:=125) rfl zV);by_cases h1:j+1<s.size
    case' neg =>
     have u:¬ (j:Int)+1<(s.size:Nat):=by omega
    case' pos =>
     have u:(j:Int)+1<(s.size:Nat):=by omega
     obtain⟨o,B⟩:=af (s[j+1]);have an:((o.toNat:Int) == (c.toNat:Int))=false:=beq_eq_false_iff_ne.2 (λ e=>hd ((G.o.1 h1).trans (by rw[B];exact congrArg some (UInt8.toNat_inj.1 (by omega)))))
    all_goals
     clear zV hA hd;go_wp2;go_ret2;exact⟨by rw[y.o];rfl,l⟩
   have F:=qh (show R=_ from aR.o.trans (congrArg (ca (bM P ++ ·)) (if_neg zV)));have T:c=123:=cf λ h=>hA ⟨h,zV⟩;obtain⟨g1,L⟩:=jf (byT (n:=123) rfl T);obtain⟨g2,aa⟩:=gp (show ¬ (c.toNat:Int)=125 by rw[T];decide);obtain⟨E,hE⟩:=af (qj (s.data.toList.drop (j+1)) false 0);have ae:=qh (show U7 s (j+1)=ah7 (j+1) E by rw[<- hE];unfold U7 ah7;cases qj (s.data.toList.drop (j+1)) false 0 <;> rfl);rw[hE] at F;have aL:=qh hE;obtain⟨p9,ac⟩:=af (U7 s (j+1));have KE:=qh (show ∀ w',Calls Tryz.prog 208 #[bO s,bL bN ((j:Int)+1)] w' λ e a2=>e = b0 (bL bN p9)/\w'=a2 from λ w'=>ac▸N7 s (j+1) w' (by unfold maxLen;omega) (by omega));rw[ac] at ae;by_cases h1:j+1<s.size
   case' neg =>
    have u:¬ (j:Int)+1<(s.size:Nat):=by omega
   case' pos =>
    have u:(j:Int)+1<(s.size:Nat):=by omega
    obtain⟨o,B⟩:=af (s[j+1]);have an:((o.toNat:Int) == (c.toNat:Int))=false:=beq_eq_false_iff_ne.2 (λ e=>hd ((G.o.1 h1).trans (by rw[B];exact congrArg some (UInt8.toNat_inj.1 (by omega)))))
   all_goals
    clear zV hA hd T hE ac;cases E with
    | none =>
     obtain rfl:p9 = -1:=ae.o;have y:=qh (show R=none from F.o);go_wp2_with (go_at_call 208;(with_reducible refine (KE.o _).mono ?_);rintro e1 w1 ⟨rfl,rfl⟩);go_ret2;exact⟨by rw[y.o];rfl,l⟩
    | some k =>
     obtain rfl:p9=((j+1+k:Nat):Int):=ae.o;have aZ:=Eh _ _ _ _ aL.o;rw[b5] at aZ;have a7:s.data.toList.length=s.size:=by simp
     go_upto_region 11 with (go_at_call 208;(with_reducible refine (KE.o _).mono ?_);rintro e1 w1 ⟨rfl,rfl⟩)
     all_goals
      have ab:s.extract (j+1) (j+1+k)=tb ((s.data.toList.drop (j+1)).take k):=QE s (j+1) k;have K:((s.data.toList.drop (j+1)).take k).length<=4000:=by rw[List.length_take,b5];omega
      obtain⟨V,WI⟩:=af ((s.data.toList.drop (j+1)).take k);obtain⟨⟨X,a1,f9⟩,J⟩:∃ z,lV V=z:=⟨_,rfl⟩;rw[WI] at K ab;have am:=qh (show R=((if f9≠0 then none else (kN (s.data.toList.drop (j+1+k+1))).map (X :: ·)).map (bM P ++ ·)) from F.o.trans (by simp only[WI,J]));have KP:=qh (show Calls Tryz.prog 209 #[bO (tb V)] wr λ e w'=>∃ N o H I,e = b0 (.tuple #[.agg (BC X N o H X.ar.length I),bL bN (a1:Nat),bL bN f9])/\cO w' (λ b=>wr.heap.size<=b) w'.heap.size X (az X N o H I)/\EG wr w' from by
       have h:=VK (tb V) wr (show V.length<=maxLen by unfold maxLen;omega) (o8.o wr l).1 (o8.o wr l).2 (λ _ x h=>b6 (Q9 (s:=V) K h) (by decide));rw[show (tb V).data.toList=V from rfl,J] at h;exact h)
      have Y:=qh (λ h:f9=0=>OQ K (by rw[J,h]));clear WI J F aL K;by_cases hf:f9=0
      .have Y:=qh (Y.o hf);obtain⟨g5,WJ⟩:=jf hf;have y:=qh (show R=_ from am.o.trans (by rw[if_neg (λ h=>h hf)]));clear hf;go_upto_region 14 with (go_at_call 209;rw[ab];(with_reducible refine KP.o.mono ?_);rintro e5 w5 ⟨N,o,H,I,rfl,ad,t⟩);obtain⟨W6,Jg⟩:=aH (w5.alloc (.cells (BC X N o H X.ar.length I) 67 (0,0)));have h6:EG w5 W6:=Jg▸aB w5 _;have BX:ag W6 w5.heap.size 67 (BC X N o H X.ar.length I):=Jg▸ag.new w5 _ _;rw[<- Jg];clear Jg;obtain⟨iK,iL,iM,iQ,iR,iT,iU,iC⟩:=ag.c8 BX;have M:EG wr W6:=t.trans (h6.mono t.size);have aD:=qh (D.o.later M);have a0:=dm C.o.1 M;have kc:=Gy aD.o.pl;have A:=a0.alloc (.cells #[.string (tb acc),.bool false,.int .i64 0,.int .i64 0,.string ⟨#[]⟩,.int .i64 0,.int .i64 0,.string ⟨#[]⟩,.slice none 0 0,.slice none 0 0,.string ⟨#[]⟩,.bool true,.int .i64 X.k,.int .i64 X.op,.string X.nm,.int .i64 X.v.k,.int .i64 X.v.n,.string X.v.s,.slice N X.v.l.length o,.slice H X.ar.length I] 266 (0,0));have a3:=M.size;have a5:=qh ad;have aM:=qh M;have H6:=qh h6;clear ad BX;go_wp2_with (at_builtin;refine wpList_append_own_at _ rfl _ _ 262 rfl w.heap.size 266 j0 (.agg #[.string ⟨#[]⟩,.bool false,.int .i64 0,.int .i64 0,.string ⟨#[]⟩,.int .i64 0,.int .i64 0,.string ⟨#[]⟩,.slice none 0 0,.slice none 0 0]) 10 136 Tryz.underlying262 ax ao ak aA rfl (by decide) _ P.length aE rfl A ⟨W6.heap.size,0,none⟩ 2 2 [.string (tb acc),.bool false,.int .i64 0,.int .i64 0,.string ⟨#[]⟩,.int .i64 0,.int .i64 0,.string ⟨#[]⟩,.slice none 0 0,.slice none 0 0,.string ⟨#[]⟩,.bool true,.int .i64 X.k,.int .i64 X.op,.string X.nm,.int .i64 X.v.k,.int .i64 X.v.n,.string X.v.s,.slice N X.v.l.length o,.slice H X.ar.length I] rfl rfl (gU (ag.new W6 _ _)) (by simp[cc]) (by unfold maxLen;omega) (by omega) (by have:=l.size;simp;omega) ?_;intro v4 w4 a f _ W);have r:=aB W6 (.cells #[.string (tb acc),.bool false,.int .i64 0,.int .i64 0,.string ⟨#[]⟩,.int .i64 0,.int .i64 0,.string ⟨#[]⟩,.slice none 0 0,.slice none 0 0,.string ⟨#[]⟩,.bool true,.int .i64 X.k,.int .i64 X.op,.string X.nm,.int .i64 X.v.k,.int .i64 X.v.n,.string X.v.s,.slice N X.v.l.length o,.slice H X.ar.length I] 266 (0,0));have q:EG w w4:=((l.trans (aM.o.mono m)).trans (r.mono (b6 m a3))).grown f (by simp;omega) (λ g hg=>(A.lt g hg).1);have vO:=Ha.push (Q:=[(false,zeroE),(true,X)]) (aD.o.later r) A (λ i Z=>((C.o.2 i Z).keep (dI.of aM.o) (λ _ h _=>h)).keep (dI.of r) (λ _ h _=>h)) rfl (λ i Z=>by
        rcases i with _ | _ | i
        .exact⟨tb acc,_,rfl,Kw _ _⟩
        .refine⟨⟨#[]⟩,_,rfl,((a5.o.keep (dI.of (H6.o.trans (r.mono H6.o.size)))).imp (λ k hk _=>⟨b6 m hk,λ e=>?_,λ e=>?_⟩)).up (b6 H6.o.size r.size)⟩
         .have:=(C.o.1.lt k e).2;omega
         .have:=(D.o.pl.lt k e).2;omega
        .simp at Z;omega) f a W
       have G7:=qh vO.empty;have a4:=qh (show R=(kN (s.data.toList.drop (j+1+k+1))).map (bM (P ++ [(false,zeroE),(true,X)]) ++ ·) from y.o.trans (by rw[wV];cases kN (s.data.toList.drop (j+1+k+1)) <;> simp[bM]));go_roundw
       case rel=>exact⟨j+1+k+1,P ++ [(false,zeroE),(true,X)],[],by go_num,by omega,G7,a4,q,b7 _,by rw[b4];simp;omega,qh (λ p hp=>(cl.1 hp).elim (IM.o p) (λ h=>by rcases cg.1 h with rfl | h;exact (by decide);rcases cg.1 h with rfl | h;exact Y.o;cases h))⟩
       case measure =>
        have:=aX.o
        first | (simp[intOf];done) | (simp[intOf];omega)
      .obtain⟨g5,WJ⟩:=gp hf;have y:=qh (show R=none from am.o.trans (by rw[if_pos hf];rfl));clear hf;go_wp2_with (go_at_call 209;rw[ab];(with_reducible refine KP.o.mono ?_);rintro e5 w5 ⟨N,o,H,I,rfl,ad,t⟩);go_ret2;exact⟨by rw[y.o];rfl,by first | exact l.trans (t.mono m) | exact (l.trans (t.mono m)).alloc (by have:=t.size;omega) _⟩
  .have e:j=s.size:=by omega
   subst e;have y:=qh (show R=some (bM P) from O.o.trans (by rw[VM];simp));have kc:=Gy D.o.pl;have A:=C.o.1.alloc (bT #[bO (tb acc),bX false,bL bN 0,bL bN 0,bO ⟨#[]⟩,bL bN 0,bL bN 0,bO ⟨#[]⟩,bR none 0 0,bR none 0 0] 266 (0,0));have Vp:¬ ((s.size:Nat):Int)<((s.size:Nat):Int):=by omega
   go_wp2_with (at_builtin;refine wpList_append_own_at _ rfl _ _ 262 rfl w.heap.size 266 j0 (.agg #[.string ⟨#[]⟩,.bool false,.int .i64 0,.int .i64 0,.string ⟨#[]⟩,.int .i64 0,.int .i64 0,.string ⟨#[]⟩,.slice none 0 0,.slice none 0 0]) 10 136 Tryz.underlying262 ax ao ak aA rfl (by decide) _ P.length aE rfl A ⟨wr.heap.size,0,none⟩ 1 1 [.string (tb acc),.bool false,.int .i64 0,.int .i64 0,.string ⟨#[]⟩,.int .i64 0,.int .i64 0,.string ⟨#[]⟩,.slice none 0 0,.slice none 0 0] rfl rfl (gU (ag.new wr _ _)) (by simp[cc]) (by unfold maxLen;omega) (by omega) (by have:=l.size;simp;omega) ?_;intro v4 w4 a f _ W);have r:=aB wr (.cells #[.string (tb acc),.bool false,.int .i64 0,.int .i64 0,.string ⟨#[]⟩,.int .i64 0,.int .i64 0,.string ⟨#[]⟩,.slice none 0 0,.slice none 0 0] 266 (0,0));have q:EG w w4:=(l.trans (r.mono m)).grown f (by simp;omega) (λ g hg=>(A.lt g hg).1);have vO:=Ha.push (Q:=[(false,zeroE)]) (D.o.later r) A (λ i Z=>(C.o.2 i Z).keep (dI.of r) (λ _ h _=>h)) rfl (λ i Z=>by
    obtain rfl:i=0:=by simpa using Z
    exact⟨tb acc,_,rfl,Kw _ _⟩) f a W
   obtain⟨A4,c4,rfl⟩:=jT a;go_ret2;refine⟨?_,q⟩;rw[y.o];exact⟨A4,P ++ [(false,zeroE)],c4,by rw[b4];rfl,vO.at_ (by rw[b4];unfold maxLen;simp;omega),by rw[wV];exact List.append_nil _,λ p hp=>(cl.1 hp).elim (IM.o p) (λ h=>by rcases cg.1 h with rfl | h;exact (by decide);cases h)⟩
end Go.Proofs.YtcnagconagpkcaaGreatDoor
