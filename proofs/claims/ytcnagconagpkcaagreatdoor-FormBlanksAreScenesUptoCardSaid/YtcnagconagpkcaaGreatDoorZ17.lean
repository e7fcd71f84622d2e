/- Lemmas. -/
import Derived.Test.YtcnagconagpkcaaGreatDoorZ16
set_option maxHeartbeats 4000000
set_option maxRecDepth 100000
open Go.Value renaming int->bO, string->bR, slice->bS, pointer->bX, bool->b0, slice->b4
open Go.IntKind renaming i64->bQ
open Go.Ending renaming returned->b1
open Nat renaming le_refl->b3, le_trans->b5, zero_le->b9
open List renaming mem_cons->b6, not_mem_nil->b7, find?_eq_none->ca, mem_map->cc, mem_of_find?_eq_some->ce, getElem?_eq_getElem->cf
open Go.World renaming news_of_block->cb
namespace Go.Proofs.YtcnagconagpkcaaGreatDoor
open Go.RowKit Vtx
abbrev kZ (w:World) (b:Nat) (v0 v1 v2 v3 v4 v5 v6 v7:Value):World:=((((((((w.setCell ⟨b,0,none⟩ v0).setCell ⟨b,1,none⟩ v1).setCell ⟨b,2,none⟩ v2).setCell ⟨b,3,none⟩ v3).setCell ⟨b,4,none⟩ v4).setCell ⟨b,5,none⟩ v5).setCell ⟨b,6,none⟩ v6).setCell ⟨b,7,none⟩ v7)
theorem Bo {w:World} {b:Nat} {T:TypeId} {u0 u1 u2 u3 u4 u5 u6 u7:Value} (h:ah w b T #[u0,u1,u2,u3,u4,u5,u6,u7]) (c a e f j d i g:Value):ah (kZ w b c a e f j d i g) b T #[c,a,e,f,j,d,i,g]:=by
 have k:=(((((((h.eG 0 c).eG 1 a).eG 2 e).eG 3 f).eG 4 j).eG 5 d).eG 6 i).eG 7 g;simpa using k
theorem jU (w:World) (b:Nat) (e a c f i h d g:Value):(kZ w b e a c f i h d g).heap.size=w.heap.size:=by simp[World.setCell]
theorem fJ (w:World) (b:Nat) (e a c h m l d j:Value) (k:Nat) (g:k≠b):(kZ w b e a c h m l d j).heap[k]?=w.heap[k]?:=by
 have f:∀ (w':World) (i:Nat) (v:Value),(w'.setCell ⟨b,i,none⟩ v).heap[k]?=w'.heap[k]?:=λ w' i v=>Below.heap_setCell w' ⟨b,i,none⟩ v k g;simp only[kZ,f]
theorem uV {g:Nat} {a w:World} (h:Kp g a w) {b:Nat} (r:a.heap.size<=b) (d c l n q j p o:Value):Kp g a (kZ w b d c l n q j p o):=
 ⟨by
  have f:∀ (w':World) (i:Nat) (v:Value),(w'.setCell ⟨b,i,none⟩ v).os=w'.os:=λ _ _ _=>rfl;simp only[kZ,f];exact h.os,by
  have f:∀ (w':World) (i:Nat) (v:Value),(w'.setCell ⟨b,i,none⟩ v).tape=w'.tape:=λ _ _ _=>rfl;simp only[kZ,f];exact h.tape,by
  have f:∀ (w':World) (i:Nat) (v:Value),(w'.setCell ⟨b,i,none⟩ v).output=w'.output:=λ _ _ _=>rfl;simp only[kZ,f];exact h.output,by rw[jU];exact h.size,λ k m e=>by rw[fJ _ _ _ _ _ _ _ _ _ _ k (by omega)];exact h.block k m e⟩
theorem kQ {s:ByteArray} {i:Nat} {word:List UInt8} (h:ni (wordsOf s.data.toList i) word=true):wordsOf s.data.toList (aS s i+(aO s i).length)=(wordsOf s.data.toList i).tail/\(wordsOf s.data.toList (aS s i+(aO s i).length)).length+1=(wordsOf s.data.toList i).length:=by
 unfold aS aO;rw[iF s.data.toList i] at h ⊢;cases ht:dL s.data.toList i with
 | none=>rw[ht] at h;cases h
 | some t=>exact⟨rfl,rfl⟩
theorem Ru (o:Int) {l:List Ex} (h:2<=l.length):DX o l = [kJ o l]:=by
 match l,h with
 | a :: b :: r,_=>rfl
theorem Kp.grown {g:Nat} {w w' w'':World} {row:Option Nat} (h:Kp g w w') (a:w'.grownBy w'' row) (d:∀ k,row=some k->w.heap.size<=k):Kp g w w'':=
 ⟨a.os.trans h.os,a.tape.trans h.tape,a.output.trans h.output,b5 h.size a.size,λ k b c=>(a.block k (Nat.lt_of_lt_of_le b h.size) (λ e=>by have:=d k e.symm;omega)).trans (h.block k b c)⟩
theorem Ea (EJ:FuncId) (Ze U:NT) (o:Int) (word:List UInt8) (aw:word≠[]) (UX:∀ (a:Array Value) (W:World),(callFunc EJ a).run Tryz.prog W = .ok (.enter EJ a) W) (n9:Nat) (hE:∀ M l,ni l word=false->Pz n9 U M l = .ok (DX o M) l) (hN:∀ M l,ni l word=true->Pz n9 U M l=(Pz n9 Ze [] l.tail).bind λ bh l1=>Pz n9 U (M ++ bh) l1) (g:Nat) (s:ByteArray) (i:Nat) (w:World) (bi:n9=s.data.toList.length) (h:aT w g s i) (hm:TM w g) (L:List Tok) (hL:wordsOf s.data.toList i=L) (hP:∀ L',L'.length<=L.length->fH EJ Ze s L') :
  Calls Tryz.prog 270 #[bX (some ⟨g,0,none⟩),bR (tb word),bO bQ o,.func (.func EJ) #[bX (some ⟨g,0,none⟩)] #[]] w λ e w'=>wG w g s ((Pz s.data.toList.length Ze [] L).bind λ M l1=>Pz s.data.toList.length U M l1) e w':=by
 have JA:=qh hP;have ao:=qh aw;subst bi;have aq:=qh hE;have am:=qh hN;clear aw hE hN;have bw:=h.b.lt;have H1:=qh (λ W hp hm=>hP L (b3 _) g i W hp hm hL);have HM:=qh hm;obtain⟨t,ht⟩:=af (tb word);rw[ht];obtain⟨r,hr⟩:=af (Pz s.data.toList.length Ze [] L);rw[hr] at H1 ⊢;have HR:=qh hr;have nV:=qh h;have HT:=qh ht;clear hr hP h ht hm;go_enter Tryz.func270,Tryz.ntmps270;go_wp2_with fail;obtain⟨W,hW,aa,BR,-,bp,-⟩:=fB g w;have iY:=qh (show aT W g s i by rw[hW];exact nV.o.alloc _);rw[<- hW];clear hW;refine (H1.o W iY.o (HM.o.kp aa)).mono ?_;cases r with
 | err k =>
  rintro e N ⟨rfl,z⟩;go_wp2_with fail;exact⟨rfl,rfl,aa.trans z⟩
 | ok M l1 =>
  rintro e N ⟨x,D,cs,rfl,rfl,rfl,hx,a3,z⟩;have HX:=qh hx;obtain⟨bo,bt,bD,bK,a5,a7,a9⟩:=hx;rename_i J E H I bs;clear a5 a7 a9;have HP:=qh a3;have B1:ZB N w.heap.size:=by (try unfold ZB);unfold ah;rw[z.block _ BR.lt (λ e=>by injection e with e;omega)];exact BR
  clear BR;obtain⟨b,hb⟩:=af (ni (wordsOf s.data.toList D) word);have HI:=qh (λ (W':World) (hp:aT W' g s D)=>xI g s D W' hp word ao.o);rw[hb,HT.o] at HI;have ng:=qh hb;have bc:(ai x J E H I).toArray = (BC x J E H x.ar.length I):=rfl;rw[bc];cases b
  .go_wp2_with fail;obtain⟨m,f⟩:=aC (N.alloc (.cells (BC x J E H x.ar.length I) 67 (0,0)));have MZ:=qh (show Kp g w m by rw[f];exact (aa.trans z).alloc _);have p:=qh (show dN (λ b=>W.heap.size<=b) N m by rw[f];exact dN.of ((Below.refl _ _).alloc (b3 _) _));have Nb:=qh (show aT m g s D by rw[f];exact HP.o.alloc _);have BR:ZB m w.heap.size:=by rw[f];exact B1.alloc _
   have BX:ah m N.heap.size 67 (BC x J E H x.ar.length I):=by rw[f];exact ah.new N _ _
   rw[<- f];clear f B1;obtain⟨dO,kD,eH,kE,ik,oV,iq,oW,jK,yQ,jL,yR,jM,yS,jO,yT⟩:=ah.z8 BR;obtain⟨aR,aD,av,aE,ar,an,aL,ax⟩:=ah.c8 BX;go_wp2_with (go_at_call 289;(with_reducible refine (HI.o _ Nb.o).mono ?_);rintro e w2 ⟨rfl,rfl⟩);refine bodyPost_ret (v:=.agg (BC x J E H x.ar.length I)) (by simp[results,Tryz.results270,go_sem,dO,eH,ik,iq,jK,jL,jM,jO]) rfl ?_;have C:(yD.ok [x] (wordsOf s.data.toList D)).bind (λ M l1=>Pz s.data.toList.length U M l1) = .ok [x] (wordsOf s.data.toList D):=aq.o _ _ hb;rw[C];refine⟨x,D,ai x J E H I,rfl,rfl,rfl,?_,?_,uV MZ.o (b3 _) _ _ _ _ _ _ _ _⟩
   .have O:dN (λ b=>W.heap.size<=b) N (kZ m w.heap.size (bO bQ x.k) (bO bQ x.op) (bR x.nm) (bO bQ x.v.k) (bO bQ x.v.n) (bR x.v.s) (bS J x.v.l.length E) (bS H x.ar.length I)):=
     ⟨by rw[jU];exact p.o.1,λ k j S=>by rw[fJ _ _ _ _ _ _ _ _ _ _ k (by omega)];exact p.o.2 k j S⟩
    exact ((HX.o.keep O).up O.1).imp (λ k j _=>by omega)
   .exact Nb.o.kp (fJ _ _ _ _ _ _ _ _ _ _ g (by omega))
  .go_wp2_with fail;obtain⟨m,f⟩:=aC (N.alloc (.cells (BC x J E H x.ar.length I) 67 (0,0)));have MZ:=qh (show Kp g w m by rw[f];exact (aa.trans z).alloc _);have p:=qh (show dN (λ b=>W.heap.size<=b) N m by rw[f];exact dN.of ((Below.refl _ _).alloc (b3 _) _));have Nb:=qh (show aT m g s D by rw[f];exact HP.o.alloc _);have BR:ZB m w.heap.size:=by rw[f];exact B1.alloc _
   have BX:ah m N.heap.size 67 (BC x J E H x.ar.length I):=by rw[f];exact ah.new N _ _
   rw[<- f];clear f B1;obtain⟨aR,aD,av,aE,ar,an,aL,ax⟩:=ah.c8 BX;go_wp2_with (go_at_call 289;(with_reducible refine (HI.o _ Nb.o).mono ?_);rintro e w2 ⟨rfl,rfl⟩);obtain⟨W2,B⟩:=aC (m.alloc (.cells (BC x J E H x.ar.length I) 67 (0,0)));have jA:=qh (show Kp g w W2 by rw[B];exact MZ.o.alloc _);have bf:=qh (show aT W2 g s D by rw[B];exact Nb.o.alloc _);have bd:=qh (show ZB W2 w.heap.size by rw[B];exact BR.alloc _);have IG:=qh (show W2.ownsRow m.heap.size 67 8 (bS (some ⟨m.heap.size,0,none⟩) 1 1) 1 (ai x J E H I) by rw[B];exact EN (ah.new m _ _) (b3 _) rfl);have UZ:=qh (show dD W2 (λ b=>W.heap.size<=b/\b≠m.heap.size) W2.heap.size x (ai x J E H I) by
    have K:=(HX.o.keep p.o).imp (q:=λ b=>W.heap.size<=b/\b≠m.heap.size) (λ k j S=>⟨j,by have:=p.o.1;omega⟩);rw[B];exact (K.keep (dN.of ((Below.refl _ _).alloc (b3 _) _))).up (by have:=p.o.1;simp;omega))
   have bj:W2.heap.size=m.heap.size+1:=by rw[B];simp
   rw[<- B];clear B BR BX aR aD av aE ar an aL ax;obtain⟨R,hR⟩:=af (Pz s.data.toList.length U [x] (wordsOf s.data.toList D));have a8:=qh hR.symm;have Eb:((yD.ok [x] (wordsOf s.data.toList D)).bind λ M l1=>Pz s.data.toList.length U M l1)=R:=hR;have HG:=qh Eb;clear Eb hR;go_loopw [10] (λ v wr=>∃ (d:List Ex) (css:List (List Value)) (A:Option Addr) (c G:Nat),v = bS A d.length c/\Hid (jh wr (λ b=>W.heap.size<=b/\some b≠(b4 A d.length c).ownBlock) d css)/\Hid (wr.ownsRow m.heap.size 67 8 (bS A d.length c) d.length css.flatten)/\Hid (m.heap.size<=wr.heap.size)/\Hid (aT wr g s G)/\Hid (Kp g w wr)/\Hid (ZB wr w.heap.size)/\Hid (R=Pz s.data.toList.length U d (wordsOf s.data.toList G))/\Hid (d.length+(wordsOf s.data.toList G).length<=4001/\(wordsOf s.data.toList G).length<=L.length)/\Hid (1<=d.length/\(d.length=1->ni (wordsOf s.data.toList G) word=true))) (λ v _=>4001 - (match v with
    | bS _ n _=>n
    | _=>0))
   case atStart =>
    refine⟨[x],[ai x J E H I],some ⟨m.heap.size,0,none⟩,1,D,rfl,?_,?_,?_,bf,jA,bd,a8,?_,qh ⟨b3 _,λ _=>ng.o⟩⟩
    .exact qh (jh.one (UZ.o.imp (λ k j _=>⟨j.1,λ e=>j.2 (by injection e)⟩)))
    .exact qh (by simpa using IG.o)
    .exact qh (by omega)
    .have K:=xH HR.o;have h2:=yf s.data.toList (s.data.toList.length+1) D;rw[aY] at h2;have h3:(wordsOf s.data.toList D).length<=4000:=by have:=HP.o.s;unfold wordsOf;rw[aY];omega
     exact qh ⟨by simp;omega,K⟩
   case round =>
    obtain⟨d,css,A,c,G,rfl,HE,HO,UI,VL,O8,Dh,Rw,LX,ad⟩:=hrel;obtain⟨b2,ae⟩:=af (ni (wordsOf s.data.toList G) word);have ac:=qh (xI g s G wr VL.o word ao.o);rw[ae,HT.o] at ac;have Zf:=qh ae;clear ae;cases b2
    .go_wp2_with (go_at_call 289;(with_reducible refine ac.o.mono ?_);rintro e w3 ⟨rfl,rfl⟩);refine (iI o A d.length c wr).mono ?_;rintro e w3 ⟨rfl,Q⟩;have B3:=Dh.o.below Q Dh.o.lt;obtain⟨dO,kD,eH,kE,ik,oV,iq,oW,jK,yQ,jL,yR,jM,yS,jO,yT⟩:=ah.z8 B3;go_wp2_with fail;refine bodyPost_ret (v:=.agg #[bO bQ 4,bO bQ o,bR ⟨#[]⟩,bO bQ 0,bO bQ 0,bR ⟨#[]⟩,bS none 0 0,bS A d.length c]) (by simp[results,Tryz.results270,go_sem,dO,eH,ik,iq,jK,jL,jM,jO]) rfl ?_;have bn:d.length≠1:=λ e=>by have:=ad.o.2 e;rw[Zf.o] at this;cases this
     have C:R = .ok [kJ o d] (wordsOf s.data.toList G):=by rw[Rw.o,aq.o _ _ Zf.o,Ru o (by have:=ad.o.1;omega)]
     rw[HG.o,C];have bg:W.heap.size<=m.heap.size:=b5 z.size p.o.1;have O:dN (λ b=>W.heap.size<=b) wr (kZ w3 w.heap.size (bO bQ 4) (bO bQ o) (bR ⟨#[]⟩) (bO bQ 0) (bO bQ 0) (bR ⟨#[]⟩) (bS none 0 0) (bS A d.length c)):=
      ⟨by rw[jU];exact Q.size,λ k j S=>by rw[fJ _ _ _ _ _ _ _ _ _ _ k (by omega)];exact Q.block k S⟩
     have a4:d.length<=maxLen:=by have:=LX.o.1;unfold maxLen;omega
     refine⟨kJ o d,G,_,rfl,rfl,rfl,?_,?_,uV (O8.o.trans (Kp.of Q)) (b3 _) _ _ _ _ _ _ _ _⟩
     .exact (((acv o (HE.o.imp (λ k j _=>j.1)) bg HO.o a4).keep O).up O.1).imp (λ k j _=>by omega)
     .exact (VL.o.below Q).kp (fJ _ _ _ _ _ _ _ _ _ _ g (by omega))
    .have HN:=qh (next_any g s G wr VL.o);have ab:=kQ Zf.o;obtain⟨i3,V⟩:=af (aS s G+(aO s G).length);rw[V] at HN ab;have wH:=qh ab;clear V ab;go_wp2_with (first | (go_at_call 289;(with_reducible refine ac.o.mono ?_);rintro e w3 ⟨rfl,rfl⟩) | (go_at_call 254;(with_reducible refine HN.o.mono ?_);rintro e w4 ⟨rfl,sD,ap⟩;have wI:=qh sD;have nS:=qh ap;clear sD ap));have P:=JA.o (wordsOf s.data.toList i3) (by have:=wH.o.2;have:=LX.o.2;omega) g i3 _ wI.o (HM.o.kp (O8.o.trans nS.o)) rfl;obtain⟨r2,Z⟩:=af (Pz s.data.toList.length Ze [] (wordsOf s.data.toList i3));rw[Z] at P;refine P.mono ?_;cases r2 with
     | err k =>
      rintro e F ⟨rfl,ak⟩;have C:R = .err k:=by rw[Rw.o,am.o _ _ Zf.o,<- wH.o.1,Z];rfl
      go_wp2_with fail;refine⟨rfl,?_⟩;rw[HG.o,C];exact⟨rfl,(O8.o.trans nS.o).trans ak⟩
     | ok es2 l2 =>
      rintro e F ⟨y,i4,bx,rfl,rfl,rfl,hy,vZ,ak⟩;have HY:=qh hy;obtain⟨bq,bB,bk,bv,aW,bb,V⟩:=hy;rename_i A3 c3 A4 c4 bE;clear aW bb V;have a2:(ai y A3 c3 A4 c4).toArray = (BC y A3 c3 A4 y.ar.length c4):=rfl;rw[a2];have T:=nS.o.trans ak;have a6:g<m.heap.size:=Nb.o.b.lt;have NM:=qh (Rt HO.o T a6);have Em:=qh (O8.o.trans T);have bL:=qh T;have I7:=qh vZ;have bN:m.heap.size<=F.heap.size:=by have:=NM.o.2;exact b5 UI.o T.size
      obtain⟨i0,a0,be,aM,a1⟩:=info_parts Zd;have br:d.length<=4001:=by have:=LX.o.1;omega
      go_wp2_with (at_builtin;refine wpList_append_lies _ rfl _ _ 52 rfl m.heap.size 67 i0 (.agg #[.int .i64 0,.int .i64 0,.string ⟨#[]⟩,.int .i64 0,.int .i64 0,.string ⟨#[]⟩,.slice none 0 0,.slice none 0 0]) 8 112 Tryz.underlying52 a0 be aM a1 rfl (by decide) _ _ _ rfl (NM.o.alloc _) ⟨F.heap.size,0,none⟩ 1 1 [.int .i64 y.k,.int .i64 y.op,.string y.nm,.int .i64 y.v.k,.int .i64 y.v.n,.string y.v.s,.slice A3 y.v.l.length c3,.slice A4 y.ar.length c4] rfl rfl ?d1 ?d2 (by decide) ?d3 ?d4 ?d5 _ rfl ?_)
      case d1=>exact cb (ah.new F 67 _)
      case d2=>intro u hu;simp only[b6,b7,or_false] at hu;rcases hu with rfl | rfl | rfl | rfl | rfl | rfl | rfl | rfl <;> rfl
      case d3=>unfold maxLen;omega
      case d4=>omega
      case d5=>simp;omega
      intro g7 X w7 rf xy Bq O9;have bl:Kp g F (F.alloc (.cells (BC y A3 c3 A4 y.ar.length c4) 67 (0,0))):=(Bj g F).alloc _;go_wp2_with fail;go_roundw
      case rel =>
       have al:∀ k,(b4 A d.length c).ownBlock=some k->m.heap.size<=k:=λ k j=>(NM.o.lt k j).1;have Y:=xy.size;have ba:w7.heap[g]?=F.heap[g]?:=(xy.block g (by have:=I7.o.b.lt;simp;omega) (λ e=>by have:=al g e.symm;omega)).trans (Below.heap_alloc F _ g I7.o.b.lt);refine⟨d ++ [y],css ++ [ai y A3 c3 A4 c4],some ⟨g7,0,none⟩,X,i4,by simp,?_,?_,?_,qh (I7.o.kp ba),?_,?_,?_,?_,?_⟩
       .have K:=HE.o.imp (q:=λ b=>(W.heap.size<=b/\some b≠(b4 A d.length c).ownBlock)/\some b≠some g7) (λ k j S=>⟨j,λ e=>by
         injection e with e;rcases Bq with h | h
         .exact j.2 (by rw[h,e])
         .have:=T.size
          try simp at h
          omega⟩)
        have h2:=(K.keep (w':=w7) ⟨by have:=T.size;simp at Y;omega,λ k j S=>by
         have hz:=T.size;rw[xy.block k (by simp;omega) j.1.2,Below.heap_alloc F _ k (by omega)];exact T.block k S (λ e=>by injection e with e;have:=iY.o.b.lt;have:=j.1.1;omega)⟩).imp (q:=λ b=>W.heap.size<=b/\some b≠(b4 (some ⟨g7,0,none⟩) (d ++ [y]).length X).ownBlock) (λ k j _=>⟨j.1.1,j.2⟩)
        have ay:∀ k,(b4 A d.length c).ownBlock=some k->k<wr.heap.size:=λ k j=>(HO.o.lt k j).2;have bA:=nS.o.size;have bm:W.heap.size<=m.heap.size:=b5 z.size p.o.1;have aM:=UI.o;have h3:=HY.o.imp (q:=λ b=>b<F.heap.size/\(W.heap.size<=b/\some b≠(b4 (some ⟨g7,0,none⟩) (d ++ [y]).length X).ownBlock)/\some b≠(b4 A d.length c).ownBlock) (λ k j S=>⟨S,⟨by omega,λ e=>by
         have e':k=g7:=by injection e
         rcases Bq with h | h
         .have:=ay g7 h;omega
         .try simp at h
          omega⟩,λ e=>by
         have:=ay k e.symm;omega⟩)
        have h4:=((h3.keep (w':=w7) ⟨by simp at Y;omega,λ k j S=>by
         rw[xy.block k (by simp;omega) j.2.2,Below.heap_alloc F _ k S]⟩).up (B':=w7.heap.size) (by simp at Y;omega)).imp (q:=λ b=>W.heap.size<=b/\some b≠(b4 (some ⟨g7,0,none⟩) (d ++ [y]).length X).ownBlock) (λ k j _=>j.2.1)
        exact qh (h2.snoc h4)
       .have e1:(d ++ [y]).length=d.length+1:=by simp
        have e2:(css ++ [ai y A3 c3 A4 c4]).flatten=css.flatten ++ ai y A3 c3 A4 c4:=by simp
        rw[e1,e2];exact qh rf
       .exact qh (by simp at Y;omega)
       .exact qh ((Em.o.alloc _).grown xy (λ k j=>by
         have K:=al k j;have h2:=p.o.1;have h3:=z.size;omega))
       .have h2:=p.o.1;have h3:=z.size;have h4:=Dh.o.lt;have h5:=T.size;have h6:ZB w7 w.heap.size:=by
         (try unfold ZB);unfold ah
         rw[xy.block _ (by simp;omega) (λ e=>by have:=al _ e.symm;omega),Below.heap_alloc F _ _ (by omega),T.block _ h4 (λ e=>by injection e with e;omega)];exact Dh.o
        exact qh h6
       .have K:R=Pz s.data.toList.length U (d ++ [y]) (wordsOf s.data.toList i4):=by rw[Rw.o,am.o _ _ Zf.o,<- wH.o.1,Z];rfl
        exact qh K
       .have K:=xH Z;have h2:=wH.o.2;have h3:=LX.o;exact qh ⟨by simp;omega,by omega⟩
       .have K:=ad.o.1;exact qh ⟨by simp,λ e=>by simp at e;rw[e] at K;exact absurd K (by decide)⟩
      case measure =>
       have K:=LX.o.1;have h2:=wH.o.2;simp;omega
theorem Pg (g:Nat) (s:ByteArray) (i:Nat) (w:World) (h:aT w g s i) (f:TM w g) (L:List Tok) (d:wordsOf s.data.toList i=L) (j:∀ c,c.length<=L.length->fH 271 .and s c) :
  Calls Tryz.prog 270 #[bX (some ⟨g,0,none⟩),bR (tb orW),bO bQ 3,.func (.func 271) #[bX (some ⟨g,0,none⟩)] #[]] w λ e w'=>wG w g s ((Pz s.data.toList.length .and [] L).bind λ b k=>Pz s.data.toList.length .UU b k) e w':=
 Ea 271 .and .UU 3 orW (by decide) (λ a W=>by simp[callFunc,go_sem,Tryz.func271,Tryz.f271]) s.data.toList.length (λ b l h=>ach h) (λ b l h=>by
  rw[iR];dsimp only[iP];rw[if_pos h]) g s i w rfl h f L d j
theorem Ph (g:Nat) (s:ByteArray) (i:Nat) (w:World) (h:aT w g s i) (f:TM w g) (L:List Tok) (d:wordsOf s.data.toList i=L) (j:∀ c,c.length<=L.length->fH 291 .not s c) :
  Calls Tryz.prog 270 #[bX (some ⟨g,0,none⟩),bR (tb X7),bO bQ 2,.func (.func 291) #[bX (some ⟨g,0,none⟩)] #[]] w λ e w'=>wG w g s ((Pz s.data.toList.length .not [] L).bind λ b k=>Pz s.data.toList.length .CV b k) e w':=
 Ea 291 .not .CV 2 X7 (by decide) (λ a W=>by simp[callFunc,go_sem,Tryz.func291,Tryz.f291]) s.data.toList.length (λ b l h=>YT h) (λ b l h=>by
  rw[iR];dsimp only[iP];rw[if_pos h]) g s i w rfl h f L d j
def rQ (l:List Tok) (sg:List (ByteArray × Int)):Int:=sg.foldl (λ o d=>if ni l d.1.data.toList then d.2 else o) 0
theorem VM (l:List Tok) (a:List (ByteArray × Int)) (d:ByteArray × Int):rQ l (a ++ [d])=if ni l d.1.data.toList then d.2 else rQ l a:=by simp[rQ,List.foldl_append]
def TT (b:Bool) (x w:List UInt8):Bool:=!b && decide (x=w)
def Pj (b:Bool) (x:List UInt8) (a c:Int):Int:=if TT b x [] then 0 else match ([4,5,6,7,8,9,10,11,15,16,17,18,19]:List Int).find? (λ o=>decide (a<=o) && decide (o<=c) && decide (dS o≠[]) && TT b x (dS o)) with
 | some o=>o
 | none=>0
def Rx (b:Bool) (x:List UInt8) (sg:List (ByteArray × Int)):Int:=sg.foldl (λ o d=>if TT b x d.1.data.toList then d.2 else o) 0
theorem Bv (a c:Int) (t:Tok) (r:List Tok):iy a c (t :: r)=Pj t.touch t.tx a c:=rfl
theorem Pm (t:Tok) (r:List Tok) (sg:List (ByteArray × Int)):rQ (t :: r) sg=Rx t.touch t.tx sg:=rfl
theorem G7 (x:List UInt8) (a c:Int):Pj true x a c=0:=by
 unfold Pj;rw[if_neg (by simp[TT]),ca.2 (λ o _=>by simp[TT])]
theorem Zg (b:Bool) (x:List UInt8):Rx b x jf=Pj b x 15 16:=by
 cases b
 .by_cases h1:x = [43]
  .subst h1;decide
  .by_cases h2:x = [45]
   .subst h2;decide
   .simp[Rx,Pj,TT,jf,dS,h1,h2]
 .rw[G7];simp[Rx,TT,jf]
theorem Zh (b:Bool) (x:List UInt8):Rx b x jg=Pj b x 17 19:=by
 cases b
 .by_cases h1:x = [42]
  .subst h1;decide
  .by_cases h2:x = [47]
   .subst h2;decide
   .by_cases h3:x = [109,111,100]
    .subst h3;decide
    .simp[Rx,Pj,TT,jg,dS,h1,h2,h3]
 .rw[G7];simp[Rx,TT,jg]
theorem VN (l:List Tok):rQ l jf=iy 15 16 l:=by
 cases l with
 | nil=>rfl
 | cons t r=>rw[Pm,Bv,Zg]
theorem VO (l:List Tok):rQ l jg=iy 17 19 l:=by
 cases l with
 | nil=>rfl
 | cons t r=>rw[Pm,Bv,Zh]
theorem Ry {l:List Tok} {k:Nat} (h:k<fE.length) (e:∀ d∈fE.take k,ni l d.1.data.toList=false) (a:ni l fE[k].1.data.toList=true):iy 4 11 l=fE[k].2:=by
 cases l with
 | nil=>cases a
 | cons t r =>
  rw[Bv];have a:TT t.touch t.tx fE[k].1.data.toList=true:=a;unfold TT at a;rw[Bool.and_eq_true,decide_eq_true_iff] at a;obtain⟨c,b⟩:=a;have g:k<8:=h;have f:t.touch=false:=by simpa using c
  clear e c;rw[f,b];clear f b a;obtain rfl | rfl | rfl | rfl | rfl | rfl | rfl | rfl:k=0\/k=1\/k=2\/k=3\/k=4\/k=5\/k=6\/k=7:=by omega
  all_goals decide +revert
theorem VP {l:List Tok} (a:∀ d∈fE,ni l d.1.data.toList=false):iy 4 11 l=0:=by
 cases l with
 | nil=>rfl
 | cons t r =>
  rw[Bv];have a:∀ d∈fE,TT t.touch t.tx d.1.data.toList=false:=a;obtain⟨b,n⟩:=af (t.touch);obtain⟨x,j⟩:=af (t.tx);rw[n,j] at a ⊢;cases b
  .simp only[fE,List.forall_mem_cons,TT,Bool.not_false,Bool.true_and,decide_eq_false_iff_not] at a;obtain⟨e,h,k,f,i,m,c,g,-⟩:=a;simp[Pj,TT,dS,e,h,k,f,i,m,c,g]
  .exact G7 _ _ _
theorem VQ (w:World):Calls Tryz.prog 279 #[] w λ e w'=>e = b1 (bS (some ⟨w.heap.size,0,none⟩) jf.length jf.length)/\ah w' w.heap.size 359 (mM jf).toArray/\IY w w':=by
 go_enter Tryz.func279,Tryz.ntmps279;go_wp2_with fail;go_ret;have e:(mM jf).toArray = #[bR ⟨#[43]⟩,bO bQ 15,bR ⟨#[45]⟩,bO bQ 16]:=by kernel_rfl
 exact⟨rfl,by rw[e];exact ah.new w 359 #[bR ⟨#[43]⟩,bO bQ 15,bR ⟨#[45]⟩,bO bQ 16],(Below.refl _ w).alloc (b3 _) _⟩
theorem VR (w:World):Calls Tryz.prog 280 #[] w λ e w'=>e = b1 (bS (some ⟨w.heap.size,0,none⟩) jg.length jg.length)/\ah w' w.heap.size 359 (mM jg).toArray/\IY w w':=by
 go_enter Tryz.func280,Tryz.ntmps280;go_wp2_with fail;go_ret;have e:(mM jg).toArray = #[bR ⟨#[42]⟩,bO bQ 17,bR ⟨#[47]⟩,bO bQ 18,bR ⟨#[109,111,100]⟩,bO bQ 19]:=by kernel_rfl
 exact⟨rfl,by rw[e];exact ah.new w 359 #[bR ⟨#[42]⟩,bO bQ 17,bR ⟨#[47]⟩,bO bQ 18,bR ⟨#[109,111,100]⟩,bO bQ 19],(Below.refl _ w).alloc (b3 _) _⟩
theorem G8:wZ=fF.map (λ d=>(d.2,d.1.data.toList)):=by decide
theorem Rz {w:List UInt8} {k:Nat} (e:k<fF.length) (a:∀ d∈fF.take k,d.1.data.toList≠w) (b:fF[k].1.data.toList=w):lG w=fF[k].2:=by
 unfold lG;have h:wZ.find? (λ p=>decide (p.2=w))=some (fF[k].2,fF[k].1.data.toList):=by
  rw[G8,List.find?_eq_some_iff_append];refine⟨by simpa using b,(fF.take k).map (λ d=>(d.2,d.1.data.toList)),(fF.drop (k+1)).map (λ d=>(d.2,d.1.data.toList)),?_,?_⟩
  .rw[show ((fF[k].2,fF[k].1.data.toList) :: (fF.drop (k+1)).map (λ d=>(d.2,d.1.data.toList)))=(fF[k] :: fF.drop (k+1)).map (λ d=>(d.2,d.1.data.toList)) from rfl,<- List.drop_eq_getElem_cons e,<- List.map_append,List.take_append_drop]
  .intro x c;obtain⟨d,f,rfl⟩:=cc.1 c;simpa using a d f
 rw[h]
theorem VS {w:List UInt8} (a:∀ d∈fF,d.1.data.toList≠w):lG w=0:=by
 unfold lG;rw[ca.2 (λ p b=>by rw[G8] at b;obtain⟨d,c,rfl⟩:=cc.1 b;simpa using a d c)]
theorem yx {s:List UInt8} {i:Nat} {t:Tok} (h:dL s i=some t) {w:List UInt8} (e:t.tx=40 :: w):t.tx = [40]:=by
 obtain⟨-,f,-,-,-,a,-⟩:=gq h;rw[drop_cons f] at a;obtain⟨c,k⟩:=af (s.getD t.at_ 0);obtain⟨r,j⟩:=af (s.drop (t.at_+1));rw[k,j,e] at a;have n:=DW c r;obtain⟨m,g⟩:∃ m,dG (c :: r)=m+1:=⟨dG (c :: r) - 1,by omega⟩;rw[g,List.take_succ_cons] at a;injection a with h1 h2;subst h1;have l:dG (40 :: r)=1:=by
  rw[dG,if_neg (by decide),if_neg (by decide),if_neg (by decide),if_neg (by decide),if_neg (by decide),if_neg (by decide)];cases r with
  | nil=>rfl
  | cons d r=>show (if QL 40 d then 2 else 1)=1;rw[if_neg (by simp[QL])]
 have b:m=0:=by omega
 rw[e,h2,b];rfl
theorem Dt {s:List UInt8} {x:Val} (h:bG x=0) (a:showT x.k x.n x.s.data.toList x.l=s):vP s=some x:=by
 rw[<- a];exact Rj h
theorem RD {w:List UInt8} {k:Nat} (c:0<k) (b:k<7) (a:lC (k:Nat)=w):gX w=(k:Nat):=by
 subst a;obtain rfl | rfl | rfl | rfl | rfl | rfl:k=1\/k=2\/k=3\/k=4\/k=5\/k=6:=by omega
 all_goals decide
theorem VT {w:List UInt8} (h:∀ k:Nat,0<k->k<7->lC (k:Nat)≠w):gX w=0:=by
 have b:=h 1 (by omega) (by omega);have c:=h 2 (by omega) (by omega);have e:=h 3 (by omega) (by omega);have g:=h 4 (by omega) (by omega);have d:=h 5 (by omega) (by omega);have f:=h 6 (by omega) (by omega);unfold gX;rw[ca.2 (λ o a=>?_)];simp only[b6,b7,or_false] at a;rw[decide_eq_true_iff];rcases a with rfl | rfl | rfl | rfl | rfl | rfl
 .exact b
 .exact c
 .exact e
 .exact g
 .exact d
 .exact f
theorem acw (k:Nat) (h:k<xE.length):xE[k]=tb (lC (k:Nat)):=by
 have a:k<7:=h;obtain rfl | rfl | rfl | rfl | rfl | rfl | rfl:k=0\/k=1\/k=2\/k=3\/k=4\/k=5\/k=6:=by omega
 all_goals rfl
theorem Zi (w:List UInt8):0<=gX w:=by
 unfold gX;split
 .rename_i o a;have:=ce a;simp only[b6,b7,or_false] at this;omega
 .exact Int.le_refl _
theorem afe (w:List UInt8):0<=lG w/\lG w<=39/\(lG w≠0->12<=lG w):=by
 unfold lG;split
 .rename_i o d;have a:=ce d;have b:(wZ.all λ p=>decide (12<=p.1/\p.1<=39))=true:=by decide
  have c:=List.all_eq_true.1 b o a;rw[decide_eq_true_iff] at c;omega
 .exact⟨Int.le_refl _,by decide,λ h=>absurd rfl h⟩
end Go.Proofs.YtcnagconagpkcaaGreatDoor
namespace Go.Proofs.YtcnagconagpkcaaGreatDoor
open Go.RowKit Vtx
attribute [local go_sem ↓] Go.wp_at_zero Go.wp_at_succ
theorem sZ {w a:World} {g i:Nat} {s:ByteArray} {x:Ex} {A A':Option Addr} {c c':Nat} {L:Nat} (h:dD a (λ b=>L<=b) a.heap.size x (ai x A c A' c')) (l:w.heap.size<L) (j:g<w.heap.size) (f:aT a g s i) (e:Kp g w a) :
  wG w g s (.ok [x] (wordsOf s.data.toList i)) (b1 (.agg (BC x A c A' x.ar.length c'))) (kZ a w.heap.size (bO bQ x.k) (bO bQ x.op) (bR x.nm) (bO bQ x.v.k) (bO bQ x.v.n) (bR x.v.s) (bS A x.v.l.length c) (bS A' x.ar.length c')):=by
 have d:dN (λ b=>L<=b) a (kZ a w.heap.size (bO bQ x.k) (bO bQ x.op) (bR x.nm) (bO bQ x.v.k) (bO bQ x.v.n) (bR x.v.s) (bS A x.v.l.length c) (bS A' x.ar.length c')):=
  ⟨by rw[jU];exact b3 _,λ k e m=>by rw[fJ _ _ _ _ _ _ _ _ _ _ k (by omega)]⟩
 exact⟨x,i,ai x A c A' c',rfl,rfl,rfl,((h.keep d).up d.1).imp (λ k e _=>by omega),f.kp (fJ _ _ _ _ _ _ _ _ _ _ g (by omega)),uV e (b3 _) _ _ _ _ _ _ _ _⟩
theorem addr_add (b o n:Nat):(⟨b,o,none⟩:Addr).add n=⟨b,o+n,none⟩:=by unfold Addr.add;split <;> simp_all
theorem Zj {w:World} {g i j:Nat} {s:ByteArray} (h:aT w g s i) (n:aT w g s j):wordsOf s.data.toList i=wordsOf s.data.toList j:=by
 have e:=h.b.symm.trans n.b;have m:(#[bR s,bO bQ (aS s i:Nat),bR (tb (aO s i)),b0 (gy s i)]:Array Value) = #[bR s,bO bQ (aS s j:Nat),bR (tb (aO s j)),b0 (gy s j)]:=by
  injection e with e;injection e
 have l:=congrArg Array.toList m;simp only[List.cons.injEq,Value.int.injEq,Value.string.injEq,Value.bool.injEq,true_and,and_true] at l;obtain⟨f,d,e3⟩:=l;have f:aS s i=aS s j:=by omega
 have d:=LV d;unfold aS at f;unfold aO at d;unfold gy at e3;rw[iF s.data.toList i,iF s.data.toList j];cases hi:dL s.data.toList i with
 | none =>
  cases hj:dL s.data.toList j with
  | none=>rfl
  | some u =>
   rw[hi,hj] at d;have k:=(gq hj).2.2.1;have d : []=u.tx:=d;rw[<- d] at k;exact absurd k (by simp)
 | some t =>
  cases hj:dL s.data.toList j with
  | none =>
   rw[hi,hj] at d;have k:=(gq hi).2.2.1;have d:t.tx = []:=d;rw[d] at k;exact absurd k (by simp)
  | some u =>
   rw[hi,hj] at f d e3;obtain⟨a,b,c⟩:=t;obtain⟨p,o,c'⟩:=u;simp only at f d e3;subst f d e3;rfl
open Classical in
noncomputable def acx (w:World) (g:Nat) (s:ByteArray):Nat:=if h:∃ i,aT w g s i then (wordsOf s.data.toList h.choose).length else 0
theorem Zk {w:World} {g i:Nat} {s:ByteArray} (h:aT w g s i):acx w g s=(wordsOf s.data.toList i).length:=by
 have a:∃ i,aT w g s i:=⟨i,h⟩;unfold acx;rw[dif_pos a,Zj a.choose_spec h]
theorem rq {s:ByteArray} {i:Nat} (h:wordsOf s.data.toList i≠[]):wordsOf s.data.toList (aS s i+(aO s i).length)=(wordsOf s.data.toList i).tail/\(wordsOf s.data.toList (aS s i+(aO s i).length)).length+1=(wordsOf s.data.toList i).length:=by
 unfold aS aO;rw[iF s.data.toList i] at h ⊢;cases ht:dL s.data.toList i with
 | none=>rw[ht] at h;exact absurd rfl h
 | some t=>exact⟨rfl,rfl⟩
theorem G9 {a b:Int} {l:List Tok} (h:iy a b l≠0):l≠[]:=by
 rintro rfl;exact h (by unfold iy;rw[if_neg (by simp[ni]),ca.2 (λ o _=>by simp[ni])])
theorem acy {w:World} {b B:Nat} {e:TypeId} {cs ds:List Value} (h:ah w b e (cs ++ ds).toArray) (d:B<=b) (c:cs.length=8) (a:ds.length=8):w.ownsRow B e 8 (bS (some ⟨b,0,none⟩) 2 2) 2 (cs ++ ds):=
 ⟨by simp[c,a],.inr ⟨b,2,(cs ++ ds).toArray,rfl,d,h,b3 _,by unfold maxLen;omega,by simp[c,a],by rw[show 2*8=(cs ++ ds).length by simp[c,a]];exact List.take_length⟩⟩
theorem jh.two {w:World} {p:Nat->Prop} {e f:Ex} {cs ds:List Value} (b:dD w p w.heap.size e cs) (a:dD w p w.heap.size f ds):jh w p [e,f] [cs,ds]:=(jh.one b).snoc a
theorem Ha {w:World} {p:Nat->Prop} {B:Nat} {a:List Ex} {css:List (List Value)} {A:Option Addr} {c:Nat} (o:Int) (h:jh w p a css) (l:∀ k,B<=k->p k) (f:w.ownsRow B 67 8 (bS A a.length c) a.length css.flatten) (m:a.length<=maxLen) :
  dD w p w.heap.size (kJ o a) (ai (kJ o a) none 0 A c):=by
 have n:∀ ad,A=some ad->p ad.block:=λ ad e=>by
  subst e;rcases f.2 with ⟨s,-⟩ | ⟨t,r,q,d,j,-⟩
  .cases s
  .injection d with d _ _;injection d with d;subst d;exact l _ j
 refine dD.mk (e:=kJ o a) (A:=none) (c:=0) (A':=A) (c':=c) (cs:=css.flatten) (show 0<=maxLen from b9 _) (show 0<=maxLen from b9 _) (show 0<=maxLen from b9 _) m ⟨Reads.none_,λ _ ad e=>by cases e⟩ ⟨Reads.ig f,λ _=>n⟩ (λ i g=>?_);have b:i<css.length:=by rw[<- h.len];exact g
 rw[TS css h.cells i b];exact h.ex i g b
theorem Zl {q:Nat->Prop} {a w6:World} {y e:Ex} {A A' i l:Option Addr} {c c' j h:Nat} (o:Int) (m:dD a q a.heap.size y (ai y A c A' c')) (f:dD a q a.heap.size e (ai e i j l h))
  (g:Below (a.alloc (.cells (ai y A c A' c' ++ ai e i j l h).toArray 67 (0,0))).heap.size (a.alloc (.cells (ai y A c A' c' ++ ai e i j l h).toArray 67 (0,0))) w6) (n:∀ k,a.heap.size<=k->q k) :
  dD w6 q w6.heap.size (kJ o [y,e]) (ai (kJ o [y,e]) none 0 (some ⟨a.heap.size,0,none⟩) 2):=by
 have b:dN q a (a.alloc (.cells (ai y A c A' c' ++ ai e i j l h).toArray 67 (0,0))):=dN.of ((Below.refl _ _).alloc (b3 _) _);have d:dN q _ w6:=dN.of g;have p:ah w6 a.heap.size 67 (ai y A c A' c' ++ ai e i j l h).toArray:=(ah.new a _ _).below g (ah.new a _ _).lt;exact Ha (B:=a.heap.size) o (jh.two (((m.keep b).keep d).up (b5 b.1 d.1)) (((f.keep b).keep d).up (b5 b.1 d.1))) n (by simpa using acy p (b3 _) (Bl m) (Bl f)) (show 2<=maxLen by decide)
theorem RF {q:Nat->Prop} {a w6:World} {y:Ex} {A A':Option Addr} {c c':Nat} (o:Int) (f:dD a q a.heap.size y (ai y A c A' c'))
  (b:Below (a.alloc (.cells (ai y A c A' c').toArray 67 (0,0))).heap.size (a.alloc (.cells (ai y A c A' c').toArray 67 (0,0))) w6) (h:∀ k,a.heap.size<=k->q k) :
  dD w6 q w6.heap.size (kJ o [y]) (ai (kJ o [y]) none 0 (some ⟨a.heap.size,0,none⟩) 1):=by
 have d:dN q a (a.alloc (.cells (ai y A c A' c').toArray 67 (0,0))):=dN.of ((Below.refl _ _).alloc (b3 _) _);have e:dN q _ w6:=dN.of b;have g:ah w6 a.heap.size 67 (ai y A c A' c').toArray:=(ah.new a _ _).below b (ah.new a _ _).lt;exact Ha (B:=a.heap.size) o (jh.one (((f.keep d).keep e).up (b5 d.1 e.1))) h (by simpa using EN g (b3 _) (Bl f)) (show 1<=maxLen by decide)
theorem EO {w:World} {q:Nat->Prop} {x:Ex} {cs:List Value} {b:Nat} (h:dD w q w.heap.size x cs) (m:∀ k,q k->k≠b) (e a c f j i d g:Value):dD (kZ w b e a c f j i d g) q (kZ w b e a c f j i d g).heap.size x cs:=
 (h.keep ⟨by rw[jU];exact b3 _,λ k l _=>fJ _ _ _ _ _ _ _ _ _ _ k (m k l)⟩).up (by rw[jU];exact b3 _)
theorem dD.Zm {w w':World} {q:Nat->Prop} {g:Nat} {x:Ex} {cs:List Value} (h:dD w q w.heap.size x cs) (a:Kp g w w') (b:∀ k,q k->k≠g):dD w' q w'.heap.size x cs:=(h.keep (a.stay b)).up a.size
theorem ah.kp {w w':World} {g b:Nat} {T:TypeId} {a:Array Value} (h:ah w b T a) (d:Kp g w w') (f:b≠g):ah w' b T a:=by
 have c:=d.block b h.lt (λ e=>f (by injection e))
 (try unfold ZB);unfold ah
 rw[c];exact h
theorem TM.below {w w':World} {g:Nat} (h:TM w g) (a:IY w w'):TM w' g:=h.kp (Kp.of a)
theorem acz (s:ByteArray) (L:List Tok) (h:∀ I,I.length<=L.length->fH 271 .and s I):fH 255 .or s L:=by
 intro g i w l G P;have C:=qh (λ W (D:aT W g s i) (n:TM W g)=>Pg g s i W D n L P h);rw[show tb orW=⟨#[111,114]⟩ from rfl,show ((Pz s.data.toList.length .and [] L).bind λ K M=>Pz s.data.toList.length .UU K M)=Pz s.data.toList.length .or [] L from by rw[iR _ .or];rfl] at C;have X:=qh l;have Y:=qh G;have z:=l.b.lt;obtain⟨r,H⟩:=af (Pz s.data.toList.length .or [] L);rw[H] at C ⊢;clear l G H;go_enter Tryz.func255,Tryz.ntmps255;go_wp2_with fail;obtain⟨W,B,b,m,-,y,-⟩:=fB g w;have T:=qh (show aT W g s i by rw[B];exact X.o.alloc _);rw[<- B];clear B;refine (C.o W T.o (Y.o.kp b)).mono ?_;cases r with
 | err k =>
  rintro e F ⟨rfl,a⟩;go_wp2_with fail;exact⟨rfl,rfl,b.trans a⟩
 | ok K M =>
  rintro e F ⟨x,i1,aa,rfl,rfl,rfl,d,A,a⟩;have V:=qh d;obtain⟨u,o,q,t,R,O,c⟩:=d;rename_i p E f j Pn;clear R O c u o q t;have J:(ai x p E f j).toArray = (BC x p E f x.ar.length j):=rfl;rw[J];clear J;have B1:ZB F w.heap.size:=by (try unfold ZB);unfold ah;rw[a.block _ m.lt (λ e=>by injection e with e;omega)];exact m
  clear m;obtain⟨U,kD,Z,kE,N,oV,iq,oW,Q,yQ,jL,yR,jM,yS,S,yT⟩:=ah.z8 B1;go_wp2_with fail;refine bodyPost_ret (v:=.agg (BC x p E f x.ar.length j)) (by simp[results,Tryz.results255,go_sem,U,Z,N,iq,Q,jL,jM,S]) rfl ?_;exact sZ V.o y z A (b.trans a)
theorem Zn (s:ByteArray) (L:List Tok) (h:∀ I,I.length<=L.length->fH 291 .not s I):fH 271 .and s L:=by
 intro g i w l G P;have C:=qh (λ W (D:aT W g s i) (n:TM W g)=>Ph g s i W D n L P h);rw[show tb X7=⟨#[97,110,100]⟩ from rfl,show ((Pz s.data.toList.length .not [] L).bind λ K M=>Pz s.data.toList.length .CV K M)=Pz s.data.toList.length .and [] L from by rw[iR _ .and];rfl] at C;have X:=qh l;have Y:=qh G;have z:=l.b.lt;obtain⟨r,H⟩:=af (Pz s.data.toList.length .and [] L);rw[H] at C ⊢;clear l G H;go_enter Tryz.func271,Tryz.ntmps271;go_wp2_with fail;obtain⟨W,B,b,m,-,y,-⟩:=fB g w;have T:=qh (show aT W g s i by rw[B];exact X.o.alloc _);rw[<- B];clear B;refine (C.o W T.o (Y.o.kp b)).mono ?_;cases r with
 | err k =>
  rintro e F ⟨rfl,a⟩;go_wp2_with fail;exact⟨rfl,rfl,b.trans a⟩
 | ok K M =>
  rintro e F ⟨x,i1,aa,rfl,rfl,rfl,d,A,a⟩;have V:=qh d;obtain⟨u,o,q,t,R,O,c⟩:=d;rename_i p E f j Pn;clear R O c u o q t;have J:(ai x p E f j).toArray = (BC x p E f x.ar.length j):=rfl;rw[J];clear J;have B1:ZB F w.heap.size:=by (try unfold ZB);unfold ah;rw[a.block _ m.lt (λ e=>by injection e with e;omega)];exact m
  clear m;obtain⟨U,kD,Z,kE,N,oV,iq,oW,Q,yQ,jL,yR,jM,yS,S,yT⟩:=ah.z8 B1;go_wp2_with fail;refine bodyPost_ret (v:=.agg (BC x p E f x.ar.length j)) (by simp[results,Tryz.results271,go_sem,U,Z,N,iq,Q,jL,jM,S]) rfl ?_;exact sZ V.o y z A (b.trans a)
def ak4 (w:World) (g:Nat) (s:ByteArray) (r:yD) (e:Ending) (w':World):Prop:=match r with
 | .ok es l'=>∃ i css A c,l'=wordsOf s.data.toList i/\e = b1 (bS A es.length c)/\jh w' (λ b=>w.heap.size<=b) es css/\w'.ownsRow w.heap.size 67 8 (bS A es.length c) es.length css.flatten/\es.length<=4001/\aT w' g s i/\Kp g w w'
 | .err k=>e=JU k/\Kp g w w'
theorem I8 (g:Nat) (s:ByteArray) (i:Nat) (w:World) (h:aT w g s i) (hm:TM w g) (o:Int) (L:List Tok) (hL:wordsOf s.data.toList i=L) (hP:∀ L',L'.length<=L.length->fH 255 .or s L') :
  Calls Tryz.prog 330 #[bX (some ⟨g,0,none⟩),bO bQ o] w λ e w'=>ak4 w g s (Pz s.data.toList.length (.args o) [] L) e w':=by
 have bh:=h.b.lt;have X:Pz s.data.toList.length (.args o) [] L=(Pz s.data.toList.length .or [] L).bind λ es l1=>Pz s.data.toList.length (.qA o) es l1:=by rw[iR];rfl
 rw[X];have H1:=qh (hP L (b3 _) g i w h hm hL);have HM:=qh hm;obtain⟨r,hr⟩:=af (Pz s.data.toList.length .or [] L);rw[hr] at H1 ⊢;have HR:=qh hr;have nV:=qh h;obtain⟨lo,ak⟩:=af ((gV o).1);obtain⟨hi,W⟩:=af ((gV o).2);have EI:=qh (And.intro ak W);have ax:arV o = .tuple #[bO bQ (lo:Nat),bO bQ (hi:Nat)]:=by unfold arV;rw[ak,W]
 have aM:=qh (λ w'=>ax▸Jj o w');clear hr h hm X ak W ax;go_enter Tryz.func330,Tryz.ntmps330;go_wp2_with (go_at_call 293;(with_reducible refine (aM.o _).mono ?_);rintro e w3 ⟨rfl,rfl⟩);refine H1.o.mono ?_;cases r with
 | err k =>
  rintro e B ⟨rfl,M⟩;go_wp2_with fail;exact⟨rfl,rfl,M⟩
 | ok es l1 =>
  rintro e B ⟨x,i1,bg,rfl,rfl,rfl,aw,av,M⟩;have EC:=qh aw;obtain⟨aD,a2,a9,bb,xJ,xK,ar⟩:=aw;rename_i A1 c1 A2 c2 Pn;clear xJ xK ar aD a2 a9 bb;have o8:(ai x A1 c1 A2 c2).toArray = (BC x A1 c1 A2 x.ar.length c2):=rfl;rw[o8];clear o8;have Nb:=qh av;have bi:=qh M;have bj:=M.size;clear av;go_wp2_with fail;obtain⟨W2,I⟩:=aC (B.alloc (.cells (BC x A1 c1 A2 x.ar.length c2) 67 (0,0)));have jA:=qh (show Kp g w W2 by rw[I];exact M.alloc _);have a6:=qh (show aT W2 g s i1 by rw[I];exact Nb.o.alloc _);have IG:=qh (show W2.ownsRow B.heap.size 67 8 (bS (some ⟨B.heap.size,0,none⟩) 1 1) 1 (ai x A1 c1 A2 c2) by rw[I];exact EN (ah.new B _ _) (b3 _) rfl);have UZ:=qh (show dD W2 (λ b=>w.heap.size<=b/\b≠B.heap.size) W2.heap.size x (ai x A1 c1 A2 c2) by
   have F:=EC.o.imp (q:=λ b=>w.heap.size<=b/\b≠B.heap.size) (λ k d m=>⟨d,by omega⟩);rw[I];exact (F.keep (dN.of ((Below.refl _ _).alloc (b3 _) _))).up (by simp))
  have be:W2.heap.size=B.heap.size+1:=by rw[I];simp
  rw[<- I];clear I M;obtain⟨R,hR⟩:=af (Pz s.data.toList.length (.qA o) [x] (wordsOf s.data.toList i1));have aL:=qh hR.symm;have Eb:((yD.ok [x] (wordsOf s.data.toList i1)).bind λ es l1=>Pz s.data.toList.length (.qA o) es l1)=R:=hR;have HG:=qh Eb;clear Eb hR;go_loopw [7] (λ v wr=>∃ (a:List Ex) (css:List (List Value)) (A:Option Addr) (c l:Nat),v = bS A a.length c/\Hid (jh wr (λ b=>w.heap.size<=b/\some b≠(b4 A a.length c).ownBlock) a css)/\Hid (wr.ownsRow B.heap.size 67 8 (bS A a.length c) a.length css.flatten)/\Hid (B.heap.size<=wr.heap.size)/\Hid (aT wr g s l)/\Hid (Kp g w wr)/\Hid (R=Pz s.data.toList.length (.qA o) a (wordsOf s.data.toList l))/\Hid (a.length+(wordsOf s.data.toList l).length<=4001/\(wordsOf s.data.toList l).length<=L.length)/\Hid (1<=a.length)) (λ v _=>4001 - (match v with
   | bS _ n _=>n
   | _=>0))
  case atStart =>
   refine⟨[x],[ai x A1 c1 A2 c2],some ⟨B.heap.size,0,none⟩,1,i1,rfl,?_,?_,?_,a6,jA,aL,?_,qh (b3 _)⟩
   .exact qh (jh.one (UZ.o.imp (λ k d _=>⟨d.1,λ e=>d.2 (by injection e)⟩)))
   .exact qh (by simpa using IG.o)
   .exact qh (by omega)
   .have F:=xH HR.o;have h2:=yf s.data.toList (s.data.toList.length+1) i1;rw[aY] at h2;have h3:(wordsOf s.data.toList i1).length<=4000:=by have:=Nb.o.s;unfold wordsOf;rw[aY];omega
    exact qh ⟨by simp;omega,F⟩
  case round =>
   obtain⟨a,css,A,c,l,rfl,HE,HO,UI,VL,O8,Rw,LX,bf⟩:=hrel;obtain⟨b2,an⟩:=af (ni (wordsOf s.data.toList l) [44]);have aa:=qh (xI g s l wr VL.o [44] (by decide));rw[an,show tb [44]=⟨#[44]⟩ from rfl] at aa;have P:=qh an;clear an;by_cases m:a.length<lo
   .have a0:((a.length:Nat):Int)<((lo:Nat):Int):=by omega
    have aq:=qh (show a.length<(gV o).1 by rw[EI.o.1];exact m);cases b2
    .have O:=qh (take_any g s l wr VL.o [44] (by decide));rw[P.o,show tb [44]=⟨#[44]⟩ from rfl] at O;have a1:=qh (show Calls Tryz.prog 323 #[bX (some ⟨g,0,none⟩),bR ⟨#[44]⟩] wr λ e w'=>e=JU (aS s l)/\wr=w' from O.o.mono (λ e w' h=>by rw[if_neg (by decide)] at h;exact h));have f:R = .err (aS s l):=by rw[Rw.o,iR];dsimp only[iP];rw[if_pos (.inl aq.o)];unfold dR;rw[if_neg (by rw[P.o];decide),mV]
     have jB:=qh f;clear f O;go_wp2_with (go_at_call 323;(with_reducible refine a1.o.mono ?_);rintro e w4 ⟨rfl,rfl⟩);refine⟨rfl,?_⟩;rw[HG.o,jB.o];exact⟨rfl,O8.o⟩
    .clear m;have O:=qh (take_any g s l wr VL.o [44] (by decide));rw[show tb [44]=⟨#[44]⟩ from rfl] at O;have G:=kQ P.o;obtain⟨i3,p⟩:=af (aS s l+(aO s l).length);rw[p] at O G;have ap:=qh (show Calls Tryz.prog 323 #[bX (some ⟨g,0,none⟩),bR ⟨#[44]⟩] wr λ e w'=>e = b1 (.tuple #[])/\aT w' g s i3/\Kp g wr w' from O.o.mono (λ e w' h=>by rw[P.o,if_pos rfl] at h;exact h));have V:=qh G;have Q:=qh (show a.length<(gV o).1\/(ni (wordsOf s.data.toList l) [44]=true/\a.length<(gV o).2) from .inl aq.o);clear p G O;go_wp2_with (first | (go_at_call 323;(with_reducible refine ap.o.mono ?_);rintro e w4 ⟨rfl,sD,S⟩;have wI:=qh sD;have nS:=qh S;clear sD S));have j:=hP (wordsOf s.data.toList i3) (by have:=V.o.2;have:=LX.o.2;omega) g i3 _ wI.o (HM.o.kp (O8.o.trans nS.o)) rfl;obtain⟨r2,D⟩:=af (Pz s.data.toList.length .or [] (wordsOf s.data.toList i3));rw[D] at j;refine j.mono ?_;cases r2 with
     | err k =>
      rintro e t ⟨rfl,H⟩;have f:R = .err k:=by rw[Rw.o,iR];dsimp only[iP];rw[if_pos Q.o];unfold dR;rw[if_pos P.o,<- V.o.1];dsimp only;rw[D];rfl
      go_wp2_with fail;refine⟨rfl,?_⟩;rw[HG.o,f];exact⟨rfl,(O8.o.trans nS.o).trans H⟩
     | ok es2 l2 =>
      rintro e t ⟨y,i4,a5,rfl,rfl,rfl,hy,vZ,H⟩;have HY:=qh hy;obtain⟨aE,a8,ay,a3,ab,am,p⟩:=hy;rename_i J K N c4 ba;clear ab am p;rw[show (ai y J K N c4).toArray = (BC y J K N y.ar.length c4) from rfl];have E:=nS.o.trans H;have ae:g<B.heap.size:=by have:=Nb.o.b.lt;omega
      have NM:=qh (Rt HO.o E ae);have Em:=qh (O8.o.trans E);have bc:=qh E;have I7:=qh vZ;have bd:B.heap.size<=t.heap.size:=b5 UI.o E.size;obtain⟨i0,ac,ao,Z,ad⟩:=info_parts Zd;have aW:a.length<=4001:=by have:=LX.o.1;omega
      go_wp2_with (at_builtin;refine wpList_append_lies _ rfl _ _ 52 rfl B.heap.size 67 i0 (.agg #[.int .i64 0,.int .i64 0,.string ⟨#[]⟩,.int .i64 0,.int .i64 0,.string ⟨#[]⟩,.slice none 0 0,.slice none 0 0]) 8 112 Tryz.underlying52 ac ao Z ad rfl (by decide) _ _ _ rfl (NM.o.alloc _) ⟨t.heap.size,0,none⟩ 1 1 [.int .i64 y.k,.int .i64 y.op,.string y.nm,.int .i64 y.v.k,.int .i64 y.v.n,.string y.v.s,.slice J y.v.l.length K,.slice N y.ar.length c4] rfl rfl ?d1 ?d2 (by decide) ?d3 ?d4 ?d5 _ rfl ?_)
      case d1=>exact cb (ah.new t 67 _)
      case d2=>intro u hu;simp only[b6,b7,or_false] at hu;rcases hu with rfl | rfl | rfl | rfl | rfl | rfl | rfl | rfl <;> rfl
      case d3=>unfold maxLen;omega
      case d4=>omega
      case d5=>simp;omega
      intro g7 z w7 rf T Bq O9;go_wp2_with fail;go_roundw
      case rel =>
       have Y:∀ k,(b4 A a.length c).ownBlock=some k->B.heap.size<=k:=λ k d=>(NM.o.lt k d).1;have C:=T.size;have al:w7.heap[g]?=t.heap[g]?:=(T.block g (by have:=I7.o.b.lt;simp;omega) (λ e=>by have:=Y g e.symm;omega)).trans (Below.heap_alloc t _ g I7.o.b.lt);refine⟨a ++ [y],css ++ [ai y J K N c4],some ⟨g7,0,none⟩,z,i4,by simp,?_,?_,?_,qh (I7.o.kp al),?_,?_,?_,?_⟩
       .have F:=HE.o.imp (q:=λ b=>(w.heap.size<=b/\some b≠(b4 A a.length c).ownBlock)/\some b≠some g7) (λ k d m=>⟨d,λ e=>by
         injection e with e;rcases Bq with h | h
         .exact d.2 (by rw[h,e])
         .have:=E.size
          try simp at h
          omega⟩)
        have h2:=(F.keep (w':=w7) ⟨by have:=E.size;simp at C;omega,λ k d m=>by
         have hz:=E.size;rw[T.block k (by simp;omega) d.1.2,Below.heap_alloc t _ k (by omega)];exact E.block k m (λ e=>by injection e with e;have:=d.1.1;omega)⟩).imp (q:=λ b=>w.heap.size<=b/\some b≠(b4 (some ⟨g7,0,none⟩) (a ++ [y]).length z).ownBlock) (λ k d _=>⟨d.1.1,d.2⟩)
        have U:∀ k,(b4 A a.length c).ownBlock=some k->k<wr.heap.size:=λ k d=>(HO.o.lt k d).2;have a7:=nS.o.size;have Z:=UI.o;have h3:=HY.o.imp (q:=λ b=>b<t.heap.size/\(w.heap.size<=b/\some b≠(b4 (some ⟨g7,0,none⟩) (a ++ [y]).length z).ownBlock)/\some b≠(b4 A a.length c).ownBlock) (λ k d m=>⟨m,⟨by omega,λ e=>by
         have e':k=g7:=by injection e
         rcases Bq with h | h
         .have:=U g7 h;omega
         .try simp at h
          omega⟩,λ e=>by
         have:=U k e.symm;omega⟩)
        have h4:=((h3.keep (w':=w7) ⟨by simp at C;omega,λ k d m=>by
         rw[T.block k (by simp;omega) d.2.2,Below.heap_alloc t _ k m]⟩).up (B':=w7.heap.size) (by simp at C;omega)).imp (q:=λ b=>w.heap.size<=b/\some b≠(b4 (some ⟨g7,0,none⟩) (a ++ [y]).length z).ownBlock) (λ k d _=>d.2.1)
        exact qh (h2.snoc h4)
       .have e1:(a ++ [y]).length=a.length+1:=by simp
        have e2:(css ++ [ai y J K N c4]).flatten=css.flatten ++ ai y J K N c4:=by simp
        rw[e1,e2];exact qh rf
       .exact qh (by simp at C;omega)
       .exact qh ((Em.o.alloc _).grown T (λ k d=>by
         have F:=Y k d;omega))
       .have F:R=Pz s.data.toList.length (.qA o) (a ++ [y]) (wordsOf s.data.toList i4):=by rw[Rw.o,iR];dsimp only[iP];rw[if_pos Q.o];unfold dR;rw[if_pos P.o,<- V.o.1];dsimp only;rw[D];rfl
        exact qh F
       .have F:=xH D;have h2:=V.o.2;have h3:=LX.o;exact qh ⟨by simp;omega,by omega⟩
       .exact qh (by simp)
      case measure =>
       have F:=LX.o.1;have h2:=V.o.2;simp;omega
   .have a0:¬ ((a.length:Nat):Int)<((lo:Nat):Int):=by omega
    have MV:=qh (show ¬ a.length<(gV o).1 by rw[EI.o.1];exact m);cases b2
    .clear m;have f:R = .ok a (wordsOf s.data.toList l):=by rw[Rw.o,iR];dsimp only[iP];rw[if_neg (λ h=>by rcases h with h | h;exact MV.o h;exact absurd (h.1.symm.trans P.o) (by decide))]
     have jB:=qh f;clear f;go_wp2_with (go_at_call 289;(with_reducible refine aa.o.mono ?_);rintro e w3 ⟨rfl,rfl⟩);go_ret;rw[HG.o,jB.o];exact⟨l,css,A,c,rfl,by rfl,HE.o.imp (λ k d _=>d.1),own_base HO.o (by omega),by have:=LX.o.1;omega,VL.o,O8.o⟩
    .by_cases hh:a.length<hi
     .have W:((a.length:Nat):Int)<((hi:Nat):Int):=by omega
      have a4:=qh (show a.length<(gV o).2 by rw[EI.o.2];exact hh);clear m hh;have O:=qh (take_any g s l wr VL.o [44] (by decide));rw[show tb [44]=⟨#[44]⟩ from rfl] at O;have G:=kQ P.o;obtain⟨i3,p⟩:=af (aS s l+(aO s l).length);rw[p] at O G;have ap:=qh (show Calls Tryz.prog 323 #[bX (some ⟨g,0,none⟩),bR ⟨#[44]⟩] wr λ e w'=>e = b1 (.tuple #[])/\aT w' g s i3/\Kp g wr w' from O.o.mono (λ e w' h=>by rw[P.o,if_pos rfl] at h;exact h));have V:=qh G;have Q:=qh (show a.length<(gV o).1\/(ni (wordsOf s.data.toList l) [44]=true/\a.length<(gV o).2) from .inr ⟨P.o,a4.o⟩);clear p G O;go_wp2_with (first | (go_at_call 323;(with_reducible refine ap.o.mono ?_);rintro e w4 ⟨rfl,sD,S⟩;have wI:=qh sD;have nS:=qh S;clear sD S) | (go_at_call 289;(with_reducible refine aa.o.mono ?_);rintro e w3 ⟨rfl,rfl⟩));have j:=hP (wordsOf s.data.toList i3) (by have:=V.o.2;have:=LX.o.2;omega) g i3 _ wI.o (HM.o.kp (O8.o.trans nS.o)) rfl;obtain⟨r2,D⟩:=af (Pz s.data.toList.length .or [] (wordsOf s.data.toList i3));rw[D] at j;refine j.mono ?_;cases r2 with
      | err k =>
       rintro e t ⟨rfl,H⟩;have f:R = .err k:=by rw[Rw.o,iR];dsimp only[iP];rw[if_pos Q.o];unfold dR;rw[if_pos P.o,<- V.o.1];dsimp only;rw[D];rfl
       go_wp2_with fail;refine⟨rfl,?_⟩;rw[HG.o,f];exact⟨rfl,(O8.o.trans nS.o).trans H⟩
      | ok es2 l2 =>
       rintro e t ⟨y,i4,a5,rfl,rfl,rfl,hy,vZ,H⟩;have HY:=qh hy;obtain⟨aE,a8,ay,a3,ab,am,p⟩:=hy;rename_i J K N c4 ba;clear ab am p;rw[show (ai y J K N c4).toArray = (BC y J K N y.ar.length c4) from rfl];have E:=nS.o.trans H;have ae:g<B.heap.size:=by have:=Nb.o.b.lt;omega
       have NM:=qh (Rt HO.o E ae);have Em:=qh (O8.o.trans E);have bc:=qh E;have I7:=qh vZ;have bd:B.heap.size<=t.heap.size:=b5 UI.o E.size;obtain⟨i0,ac,ao,Z,ad⟩:=info_parts Zd;have aW:a.length<=4001:=by have:=LX.o.1;omega
       go_wp2_with (at_builtin;refine wpList_append_lies _ rfl _ _ 52 rfl B.heap.size 67 i0 (.agg #[.int .i64 0,.int .i64 0,.string ⟨#[]⟩,.int .i64 0,.int .i64 0,.string ⟨#[]⟩,.slice none 0 0,.slice none 0 0]) 8 112 Tryz.underlying52 ac ao Z ad rfl (by decide) _ _ _ rfl (NM.o.alloc _) ⟨t.heap.size,0,none⟩ 1 1 [.int .i64 y.k,.int .i64 y.op,.string y.nm,.int .i64 y.v.k,.int .i64 y.v.n,.string y.v.s,.slice J y.v.l.length K,.slice N y.ar.length c4] rfl rfl ?d1 ?d2 (by decide) ?d3 ?d4 ?d5 _ rfl ?_)
       case d1=>exact cb (ah.new t 67 _)
       case d2=>intro u hu;simp only[b6,b7,or_false] at hu;rcases hu with rfl | rfl | rfl | rfl | rfl | rfl | rfl | rfl <;> rfl
       case d3=>unfold maxLen;omega
       case d4=>omega
       case d5=>simp;omega
       intro g7 z w7 rf T Bq O9;go_wp2_with fail;go_roundw
       case rel =>
        have Y:∀ k,(b4 A a.length c).ownBlock=some k->B.heap.size<=k:=λ k d=>(NM.o.lt k d).1;have C:=T.size;have al:w7.heap[g]?=t.heap[g]?:=(T.block g (by have:=I7.o.b.lt;simp;omega) (λ e=>by have:=Y g e.symm;omega)).trans (Below.heap_alloc t _ g I7.o.b.lt);refine⟨a ++ [y],css ++ [ai y J K N c4],some ⟨g7,0,none⟩,z,i4,by simp,?_,?_,?_,qh (I7.o.kp al),?_,?_,?_,?_⟩
        .have F:=HE.o.imp (q:=λ b=>(w.heap.size<=b/\some b≠(b4 A a.length c).ownBlock)/\some b≠some g7) (λ k d m=>⟨d,λ e=>by
          injection e with e;rcases Bq with h | h
          .exact d.2 (by rw[h,e])
          .have:=E.size
           try simp at h
           omega⟩)
         have h2:=(F.keep (w':=w7) ⟨by have:=E.size;simp at C;omega,λ k d m=>by
          have hz:=E.size;rw[T.block k (by simp;omega) d.1.2,Below.heap_alloc t _ k (by omega)];exact E.block k m (λ e=>by injection e with e;have:=d.1.1;omega)⟩).imp (q:=λ b=>w.heap.size<=b/\some b≠(b4 (some ⟨g7,0,none⟩) (a ++ [y]).length z).ownBlock) (λ k d _=>⟨d.1.1,d.2⟩)
         have U:∀ k,(b4 A a.length c).ownBlock=some k->k<wr.heap.size:=λ k d=>(HO.o.lt k d).2;have a7:=nS.o.size;have Z:=UI.o;have h3:=HY.o.imp (q:=λ b=>b<t.heap.size/\(w.heap.size<=b/\some b≠(b4 (some ⟨g7,0,none⟩) (a ++ [y]).length z).ownBlock)/\some b≠(b4 A a.length c).ownBlock) (λ k d m=>⟨m,⟨by omega,λ e=>by
          have e':k=g7:=by injection e
          rcases Bq with h | h
          .have:=U g7 h;omega
          .try simp at h
           omega⟩,λ e=>by
          have:=U k e.symm;omega⟩)
         have h4:=((h3.keep (w':=w7) ⟨by simp at C;omega,λ k d m=>by
          rw[T.block k (by simp;omega) d.2.2,Below.heap_alloc t _ k m]⟩).up (B':=w7.heap.size) (by simp at C;omega)).imp (q:=λ b=>w.heap.size<=b/\some b≠(b4 (some ⟨g7,0,none⟩) (a ++ [y]).length z).ownBlock) (λ k d _=>d.2.1)
         exact qh (h2.snoc h4)
        .have e1:(a ++ [y]).length=a.length+1:=by simp
         have e2:(css ++ [ai y J K N c4]).flatten=css.flatten ++ ai y J K N c4:=by simp
         rw[e1,e2];exact qh rf
        .exact qh (by simp at C;omega)
        .exact qh ((Em.o.alloc _).grown T (λ k d=>by
          have F:=Y k d;omega))
        .have F:R=Pz s.data.toList.length (.qA o) (a ++ [y]) (wordsOf s.data.toList i4):=by rw[Rw.o,iR];dsimp only[iP];rw[if_pos Q.o];unfold dR;rw[if_pos P.o,<- V.o.1];dsimp only;rw[D];rfl
         exact qh F
        .have F:=xH D;have h2:=V.o.2;have h3:=LX.o;exact qh ⟨by simp;omega,by omega⟩
        .exact qh (by simp)
       case measure =>
        have F:=LX.o.1;have h2:=V.o.2;simp;omega
     .have W:¬ ((a.length:Nat):Int)<((hi:Nat):Int):=by omega
      have aR:=qh (show ¬ a.length<(gV o).2 by rw[EI.o.2];exact hh);clear m hh;have f:R = .ok a (wordsOf s.data.toList l):=by rw[Rw.o,iR];dsimp only[iP];rw[if_neg (λ h=>by rcases h with h | h;exact MV.o h;exact aR.o h.2)]
      have jB:=qh f;clear f;go_wp2_with (go_at_call 289;(with_reducible refine aa.o.mono ?_);rintro e w3 ⟨rfl,rfl⟩);go_ret;rw[HG.o,jB.o];exact⟨l,css,A,c,rfl,by rfl,HE.o.imp (λ k d _=>d.1),own_base HO.o (by omega),by have:=LX.o.1;omega,VL.o,O8.o⟩
theorem jV {s:ByteArray} {i:Nat} {t:Tok} (h:dL s.data.toList i=some t):aS s i=t.at_/\aO s i=t.tx/\gy s i=t.touch:=by unfold aS aO gy;rw[h];exact⟨rfl,rfl,rfl⟩
theorem uX (x:List UInt8) (w:World):IE 327 #[bR (tb x)] w (bO bQ (gX x)):=by
 obtain⟨u,o⟩:=af (tb x);have s:=qh o;rw[o];clear o;go_enter Tryz.func327,Tryz.ntmps327;go_wp2_with fail;refine (yP w).mono ?_;rintro J W ⟨G,rfl,t,g⟩;have A:=qh t;clear t;go_wp2_with fail;go_loopw [7,3,4] (λ i _ _ z=>∃ k:Nat,k<=7/\i = bO bQ k/\Hid (∀ j:Nat,0<j->j<k->lC (j:Nat)≠x)/\z=W) (λ i _ _ _=>7 - (intOf i).toNat)
 case atStart=>exact⟨0,b9 _,rfl,qh (λ j h m=>by omega),rfl⟩
 case round =>
  obtain⟨k,I,rfl,p,rfl⟩:=hrel;by_cases hlt:k<7
  .have b:k<xE.length:=hlt;obtain⟨ad,c,D,a⟩:=A.o.2 (by decide);injection c with c;subst c;have f:(jq xE)[k]?=some (bR (tb (lC (k:Nat)))):=by
    unfold jq;rw[List.getElem?_map,cf b];rw[Option.map_some,acw k b]
   have F:=a k _ f;obtain⟨v,d⟩:=af (tb (lC (k:Nat)));rw[d] at F;have l:=qh hlt;have y:(0:Int)<=(k:Nat):=by omega
   have B:(k:Int)<7:=by omega
   clear f a D;by_cases hp:0<k
   .have H:=qh hp;have n:(0:Int)<(k:Nat):=by omega
    by_cases he:lC (k:Nat)=x
    .have E:(v.toList == u.toList)=true:=jb (by rw[<- d,<- s.o,he]);have q:=qh (RD hp hlt he);clear he d hp;go_wp2_with fail;go_ret;exact⟨by rw[q.o];rfl,g⟩
    .have E:(v.toList == u.toList)=false:=dE (λ e=>he (LV (by rw[d,s.o,e])));have C:=qh (show ∀ j:Nat,0<j->j<k+1->lC (j:Nat)≠x from λ j h m=>by
      by_cases hj:j=k
      .subst hj;exact he
      .exact p.o j h (by omega))
     clear he d hp;go_wp2_with fail;go_roundw
     case rel=>exact⟨k+1,l.o,by go_num,C,trivial⟩
     case measure =>
      have:=l.o;simp[intOf];omega
   .have n:¬ (0:Int)<(k:Nat):=by omega
    have r:=qh (show k=0 by omega);clear hp d;go_wp2_with fail;go_roundw
    case rel=>exact⟨k+1,l.o,by go_num,qh (λ j h m=>by have:=r.o;omega),trivial⟩
    case measure =>
     have:=l.o;simp[intOf];omega
  .have q:=qh (VT (w:=x) (λ j h m=>p.o j h (by omega)));clear p;go_wp2_with fail;go_ret;exact⟨by rw[q.o];rfl,g⟩
theorem Bz (x:List UInt8) (w:World):IE 328 #[bR (tb x)] w (bO bQ (lG x)):=by
 obtain⟨u,r⟩:=af (tb x);have t:=qh r;rw[r];clear r;go_enter Tryz.func328,Tryz.ntmps328;go_wp2_with fail;refine (OB w).mono ?_;rintro Q W ⟨m,rfl,v,f⟩;have E:=qh v;have g:IY W W:=Below.refl _ _;clear v;go_wp2_with fail;go_loopw [7,4] (λ i _ D=>∃ k:Nat,k<=22/\i = bO bQ k/\Hid (∀ d∈fF.take k,d.1.data.toList≠x)/\IY W D) (λ i _ _=>22 - (intOf i).toNat)
 case atStart=>exact⟨0,b9 _,rfl,qh (λ d h=>by simp at h),g⟩
 case round =>
  obtain⟨k,O,rfl,p,c⟩:=hrel;have A:=c.size;by_cases hlt:k<22
  .have b:k<fF.length:=hlt;obtain⟨ad,F,l,J,j,a⟩:=(dU E.o c).at_ b;injection l with l;subst l;obtain⟨d,o⟩:=af (fF[k]);have q:=qh (show fF.take (k+1)=fF.take k ++ [d] by rw[List.take_succ_eq_append_getElem b,o]);have s:=qh (show d.1.data.toList=x->lG x=d.2 from λ h=>by rw[<- o];exact Rz b p.o (by rw[o];exact h));rw[o] at j;have B:=qh hlt;obtain⟨n,z⟩:=d;have K:F = [bR n,bO bQ z]:=j;subst K;obtain⟨P,N⟩:=H7 a;have C:(0:Int)<=(k:Nat):=by omega
   have G:(k:Int)<22:=by omega
   clear j a o J b;by_cases ho:n.data.toList=x
   .have bo:(n.toList == u.toList)=true:=jb (by rw[<- t.o,<- ho,Y9]);have L:=qh (s.o ho);clear ho;go_wp2_with fail;go_ret;exact⟨by rw[L.o];rfl,f.trans ((c.alloc A _).mono f.size)⟩
   .have bo:(n.toList == u.toList)=false:=dE (λ e=>ho (by rw[e,<- t.o,jJ]));have H:=qh (show ∀ d∈fF.take (k+1),d.1.data.toList≠x by
     rw[q.o];intro y M;rcases List.mem_append.1 M with h | h
     .exact p.o y h
     .rw[List.mem_singleton] at h;rw[h];exact ho)
    clear ho;go_wp2_with fail;go_roundw
    case rel=>exact⟨k+1,B.o,by go_num,H,c.alloc A _⟩
    case measure =>
     have:=B.o;simp[intOf];omega
  .have I:=qh (show lG x=0 from VS (by have h:=p.o;rwa [List.take_of_length_le (show fF.length<=k by show 22<=k;omega)] at h));clear p;go_wp2_with fail;go_ret;exact⟨by rw[I.o];rfl,f.trans (c.mono f.size)⟩
def acB (w:World) (g:Nat) (s:ByteArray) (i:Nat) (e:Ending) (w':World):Prop:=match nameAt (wordsOf s.data.toList i) with
 | some x=>∃ i',e = b1 (bR (tb x))/\wordsOf s.data.toList i'=(wordsOf s.data.toList i).tail/\aT w' g s i'/\Kp g w w'
 | none=>e=JU (qB s.data.toList.length (wordsOf s.data.toList i))/\w=w'
theorem Po (g:Nat) (s:ByteArray) (i:Nat) (w:World) (h:aT w g s i):Calls Tryz.prog 329 #[bX (some ⟨g,0,none⟩)] w λ e w'=>acB w g s i e w':=by
 have Q:=qh h;have HW:=qh (iD g s i w h);have H:=qh (next_any g s i w h);have v:w.cell? ⟨g,2,none⟩=some (bR (tb (aO s i))):=h.b.cell 2;have I:w.cell? ⟨g,3,none⟩=some (b0 (gy s i)):=h.b.cell 3;have y:=qh (mV s i);unfold acB;rw[y.o];cases ht:dL s.data.toList i with
 | none =>
  have n:=qJ ht;have G:aO s i = []:=by unfold aO;rw[ht]
  rw[G] at v;rw[show nameAt (wordsOf s.data.toList i)=none by rw[n];rfl];change w.cell? ⟨g,2,none⟩=some (bR ⟨#[]⟩) at v;clear n G ht h Q H;go_enter Tryz.func329,Tryz.ntmps329;go_wp2_with (go_at_call 256;(with_reducible refine HW.o.mono ?_);rintro e b ⟨rfl,rfl⟩);exact⟨rfl,rfl,rfl⟩
 | some t =>
  obtain⟨J,D,K⟩:=jV ht;obtain⟨S,a,C⟩:=sW ht;obtain⟨c0,q⟩:=af (s.data.toList.getD t.at_ 0);rw[q] at a;have n:wordsOf s.data.toList i=t :: wordsOf s.data.toList (t.at_+t.tx.length):=by rw[iF,ht]
  rw[D] at v;rw[K] at I;have p:nameAt (wordsOf s.data.toList i)=if !t.touch && (nN c0 && !bH.contains t.tx) then some t.tx else none:=by
   have B:nameB t.tx=(nN c0 && !bH.contains t.tx):=by
    unfold nameB;congr 1;rw[a]
   rw[n,<- B];rfl
  rw[p];obtain⟨u,l⟩:=af (tb t.tx);have d:0<u.size:=by rw[<- l,kY,a];simp
  have o:u[0]=c0:=by
   subst l;have m:(tb t.tx).data.toList[0]?=some c0:=by rw[jJ,a];rfl
   have r:(tb t.tx).data.toList[0]?=some (tb t.tx)[0]:=by
    rw[cf (by rw[aY];exact d)];rfl
   rw[r] at m;injection m
  have A:(u.toList == (⟨#[]⟩:ByteArray).toList)=false:=dE (λ e=>by rw[e] at d;exact absurd d (by decide));have L:u.toList.isEmpty=false:=by
   cases h:u.toList.isEmpty with
   | false=>rfl
   | true =>
    have m:u.toList = []:=List.isEmpty_iff.1 h;have r:(u.toList == (⟨#[]⟩:ByteArray).toList)=true:=by rw[m];simp
    rw[A] at r;cases r
  have x:=qh (show ∀ w',Calls Tryz.prog 55 #[.int .u8 (u[0].toNat:Nat)] w' λ e j=>e = b1 (b0 (nN c0))/\w'=j from λ w'=>by rw[o];exact oL c0 w');have F:=qh (show ∀ w',Calls Tryz.prog 56 #[bR u] w' λ e j=>e = b1 (b0 (bH.contains t.tx))/\w'=j from λ w'=>by
   have m:=nz u w'
   rwa [show u.data.toList=t.tx from by rw[<- l,jJ]] at m)
  have M:=qh l;have R:=qh (show wordsOf s.data.toList (aS s i+(aO s i).length)=(wordsOf s.data.toList i).tail by rw[J,D,n];rfl);rw[l] at v;obtain⟨P,f⟩:=af (t.touch);obtain⟨O,k⟩:=af (nN c0);obtain⟨N,c⟩:=af (bH.contains t.tx);rw[f] at I;rw[f,k,c];rw[k] at x;rw[c] at F;clear l o f k c p n a C q J D K ht h;cases P
  .cases O
   .go_enter Tryz.func329,Tryz.ntmps329;go_wp2_with (first | (go_at_call 256;(with_reducible refine HW.o.mono ?_);rintro e b ⟨rfl,rfl⟩) | (go_at_call 55;(with_reducible refine (x.o _).mono ?_);rintro e b ⟨rfl,rfl⟩));exact⟨rfl,rfl,rfl⟩
   .cases N
    .rw[if_pos (show (!false && (true && !false))=true from rfl)];go_enter Tryz.func329,Tryz.ntmps329;go_wp2_with (first | (go_at_call 254;(with_reducible refine H.o.mono ?_);rintro e b ⟨rfl,E,z⟩) | (go_at_call 55;(with_reducible refine (x.o _).mono ?_);rintro e b ⟨rfl,rfl⟩) | (go_at_call 56;(with_reducible refine (F.o _).mono ?_);rintro e b ⟨rfl,rfl⟩));go_ret;exact⟨aS s i+(aO s i).length,by rw[M.o];rfl,R.o,E,z⟩
    .go_enter Tryz.func329,Tryz.ntmps329;go_wp2_with (first | (go_at_call 256;(with_reducible refine HW.o.mono ?_);rintro e b ⟨rfl,rfl⟩) | (go_at_call 55;(with_reducible refine (x.o _).mono ?_);rintro e b ⟨rfl,rfl⟩) | (go_at_call 56;(with_reducible refine (F.o _).mono ?_);rintro e b ⟨rfl,rfl⟩));exact⟨rfl,rfl,rfl⟩
  .go_enter Tryz.func329,Tryz.ntmps329;go_wp2_with (go_at_call 256;(with_reducible refine HW.o.mono ?_);rintro e b ⟨rfl,rfl⟩);exact⟨rfl,rfl,rfl⟩
end Go.Proofs.YtcnagconagpkcaaGreatDoor
