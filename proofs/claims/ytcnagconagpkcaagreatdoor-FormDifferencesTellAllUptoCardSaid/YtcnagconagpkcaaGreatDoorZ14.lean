/- Lemmas. -/
import Derived.Test.YtcnagconagpkcaaGreatDoorZ13
set_option maxHeartbeats 4000000
set_option maxRecDepth 100000
open Go.Value renaming int->bL, string->bO, slice->bR, pointer->bS, bool->bT, slice->b1
open Go.IntKind renaming i64->bN
open Go.Ending renaming returned->bX
open Nat renaming le_refl->b0, le_trans->b3, zero_le->b6
open List renaming mem_cons->b4, not_mem_nil->b5, find?_eq_none->b7, mem_map->ca, mem_of_find?_eq_some->cb, getElem?_eq_getElem->cc
open Go.World renaming news_of_block->b9
namespace Go.Proofs.YtcnagconagpkcaaGreatDoor
open Go.RowKit Vtx
abbrev kT (w:World) (b:Nat) (v0 v1 v2 v3 v4 v5 v6 v7:Value):World:=((((((((w.setCell ⟨b,0,none⟩ v0).setCell ⟨b,1,none⟩ v1).setCell ⟨b,2,none⟩ v2).setCell ⟨b,3,none⟩ v3).setCell ⟨b,4,none⟩ v4).setCell ⟨b,5,none⟩ v5).setCell ⟨b,6,none⟩ v6).setCell ⟨b,7,none⟩ v7)
theorem Aa {w:World} {b:Nat} {T:TypeId} {u0 u1 u2 u3 u4 u5 u6 u7:Value} (h:ag w b T #[u0,u1,u2,u3,u4,u5,u6,u7]) (a j c e g i f d:Value):ag (kT w b a j c e g i f d) b T #[a,j,c,e,g,i,f,d]:=by
 have k:=(((((((h.dS 0 a).dS 1 j).dS 2 c).dS 3 e).dS 4 g).dS 5 i).dS 6 f).dS 7 d;simpa using k
theorem jK (w:World) (b:Nat) (c h f a e g d i:Value):(kT w b c h f a e g d i).heap.size=w.heap.size:=by simp[World.setCell]
theorem fF (w:World) (b:Nat) (c l g a e h d m:Value) (k:Nat) (j:k≠b):(kT w b c l g a e h d m).heap[k]?=w.heap[k]?:=by
 have f:∀ (w':World) (i:Nat) (v:Value),(w'.setCell ⟨b,i,none⟩ v).heap[k]?=w'.heap[k]?:=λ w' i v=>Below.heap_setCell w' ⟨b,i,none⟩ v k j;simp only[kT,f]
theorem uD {g:Nat} {w0 w:World} (h:Kp g w0 w) {b:Nat} (q:w0.heap.size<=b) (a p c e l m j d:Value):Kp g w0 (kT w b a p c e l m j d):=
 ⟨by
  have f:∀ (w':World) (i:Nat) (v:Value),(w'.setCell ⟨b,i,none⟩ v).os=w'.os:=λ _ _ _=>rfl;simp only[kT,f];exact h.os,by
  have f:∀ (w':World) (i:Nat) (v:Value),(w'.setCell ⟨b,i,none⟩ v).tape=w'.tape:=λ _ _ _=>rfl;simp only[kT,f];exact h.tape,by
  have f:∀ (w':World) (i:Nat) (v:Value),(w'.setCell ⟨b,i,none⟩ v).output=w'.output:=λ _ _ _=>rfl;simp only[kT,f];exact h.output,by rw[jK];exact h.size,λ k o n=>by rw[fF _ _ _ _ _ _ _ _ _ _ k (by omega)];exact h.block k o n⟩
theorem kL {s:ByteArray} {i:Nat} {word:List UInt8} (h:mW (wordsOf s.data.toList i) word=true):wordsOf s.data.toList (aN s i+(aK s i).length)=(wordsOf s.data.toList i).tail/\(wordsOf s.data.toList (aN s i+(aK s i).length)).length+1=(wordsOf s.data.toList i).length:=by
 unfold aN aK;rw[gZ s.data.toList i] at h ⊢;cases ht:dG s.data.toList i with
 | none=>rw[ht] at h;cases h
 | some t=>exact⟨rfl,rfl⟩
theorem QH (o:Int) {l:List Ex} (h:2<=l.length):Di o l = [kE o l]:=by
 match l,h with
 | a :: b :: r,_=>rfl
theorem Kp.grown {g:Nat} {w w' w'':World} {b:Option Nat} (h:Kp g w w') (a:w'.grownBy w'' b) (d:∀ k,b=some k->w.heap.size<=k):Kp g w w'':=
 ⟨a.os.trans h.os,a.tape.trans h.tape,a.output.trans h.output,b3 h.size a.size,λ k c f=>(a.block k (Nat.lt_of_lt_of_le c h.size) (λ e=>by have:=d k e.symm;omega)).trans (h.block k c f)⟩
theorem Dw (Eb:FuncId) (YP V:NT) (o:Int) (word:List UInt8) (aL:word≠[]) (bi:∀ (a:Array Value) (W:World),(callFunc Eb a).run Tryz.prog W = .ok (.enter Eb a) W) (n9:Nat) (hE:∀ M l,mW l word=false->Pz n9 V M l = .ok (Di o M) l) (hN:∀ M l,mW l word=true->Pz n9 V M l=(Pz n9 YP [] l.tail).bind λ a7 l1=>Pz n9 V (M ++ a7) l1) (g:Nat) (s:ByteArray) (i:Nat) (w:World) (JQ:n9=s.data.toList.length) (h:aP w g s i) (hm:TM w g) (L:List Tok) (hL:wordsOf s.data.toList i=L) (hP:∀ L',L'.length<=L.length->fE Eb YP s L') :
  Calls Tryz.prog 270 #[bS (some ⟨g,0,none⟩),bO (tb word),bL bN o,.func (.func Eb) #[bS (some ⟨g,0,none⟩)] #[]] w λ e w'=>vM w g s ((Pz s.data.toList.length YP [] L).bind λ M l1=>Pz s.data.toList.length V M l1) e w':=by
 have IM:=qh hP;have ax:=qh aL;subst JQ;have ay:=qh hE;have aq:=qh hN;clear aL hE hN;have bK:=h.b.lt;have H1:=qh (λ W hp hm=>hP L (b0 _) g i W hp hm hL);have HM:=qh hm;obtain⟨t,ht⟩:=af (tb word);rw[ht];obtain⟨r,hr⟩:=af (Pz s.data.toList.length YP [] L);rw[hr] at H1 ⊢;have HR:=qh hr;have lL:=qh h;have HT:=qh ht;clear hr hP h ht hm;go_enter Tryz.func270,Tryz.ntmps270;go_wp2_with fail;obtain⟨W,hW,aa,BR,-,bm,-⟩:=fA g w;have iV:=qh (show aP W g s i by rw[hW];exact lL.o.alloc _);rw[<- hW];clear hW;refine (H1.o W iV.o (HM.o.kp aa)).mono ?_;cases r with
 | err k =>
  rintro e O ⟨rfl,z⟩;go_wp2_with fail;exact⟨rfl,rfl,aa.trans z⟩
 | ok M l1 =>
  rintro e O ⟨x,D,cs,rfl,rfl,rfl,hx,a5,z⟩;have HX:=qh hx;obtain⟨bB,bh,bt,bv,aZ,a3,a0⟩:=hx;rename_i K E G H bo;clear aZ a3 a0;have HP:=qh a5;have B1:ZB O w.heap.size:=by (try unfold ZB);unfold ag;rw[z.block _ BR.lt (λ e=>by injection e with e;omega)];exact BR
  clear BR;obtain⟨b,hb⟩:=af (mW (wordsOf s.data.toList D) word);have HI:=qh (λ (W':World) (hp:aP W' g s D)=>wP g s D W' hp word ax.o);rw[hb,HT.o] at HI;have dH:=qh hb;have bc:(az x K E G H).toArray = (BC x K E G x.ar.length H):=rfl;rw[bc];cases b
  .go_wp2_with fail;obtain⟨m,j⟩:=aH (O.alloc (.cells (BC x K E G x.ar.length H) 67 (0,0)));have LP:=qh (show Kp g w m by rw[j];exact (aa.trans z).alloc _);have p:=qh (show dI (λ b=>W.heap.size<=b) O m by rw[j];exact dI.of ((Below.refl _ _).alloc (b0 _) _));have LU:=qh (show aP m g s D by rw[j];exact HP.o.alloc _);have BR:ZB m w.heap.size:=by rw[j];exact B1.alloc _
   have BX:ag m O.heap.size 67 (BC x K E G x.ar.length H):=by rw[j];exact ag.new O _ _
   rw[<- j];clear j B1;obtain⟨dM,jY,eQ,jZ,gW,oH,gX,oI,jM,yw,jO,yx,jP,yz,jQ,yA⟩:=ag.z8 BR;obtain⟨ao,an,am,aM,aE,aD,ar,ap⟩:=ag.c8 BX;go_wp2_with (go_at_call 289;(with_reducible refine (HI.o _ LU.o).mono ?_);rintro e w2 ⟨rfl,rfl⟩);refine bodyPost_ret (v:=.agg (BC x K E G x.ar.length H)) (by simp[results,Tryz.results270,go_sem,dM,eQ,gW,gX,jM,jO,jP,jQ]) rfl ?_;have B:(xQ.ok [x] (wordsOf s.data.toList D)).bind (λ M l1=>Pz s.data.toList.length V M l1) = .ok [x] (wordsOf s.data.toList D):=ay.o _ _ hb;rw[B];refine⟨x,D,az x K E G H,rfl,rfl,rfl,?_,?_,uD LP.o (b0 _) _ _ _ _ _ _ _ _⟩
   .have N:dI (λ b=>W.heap.size<=b) O (kT m w.heap.size (bL bN x.k) (bL bN x.op) (bO x.nm) (bL bN x.v.k) (bL bN x.v.n) (bO x.v.s) (bR K x.v.l.length E) (bR G x.ar.length H)):=
     ⟨by rw[jK];exact p.o.1,λ k f Q=>by rw[fF _ _ _ _ _ _ _ _ _ _ k (by omega)];exact p.o.2 k f Q⟩
    exact ((HX.o.keep N).up N.1).imp (λ k f _=>by omega)
   .exact LU.o.kp (fF _ _ _ _ _ _ _ _ _ _ g (by omega))
  .go_wp2_with fail;obtain⟨m,j⟩:=aH (O.alloc (.cells (BC x K E G x.ar.length H) 67 (0,0)));have LP:=qh (show Kp g w m by rw[j];exact (aa.trans z).alloc _);have p:=qh (show dI (λ b=>W.heap.size<=b) O m by rw[j];exact dI.of ((Below.refl _ _).alloc (b0 _) _));have LU:=qh (show aP m g s D by rw[j];exact HP.o.alloc _);have BR:ZB m w.heap.size:=by rw[j];exact B1.alloc _
   have BX:ag m O.heap.size 67 (BC x K E G x.ar.length H):=by rw[j];exact ag.new O _ _
   rw[<- j];clear j B1;obtain⟨ao,an,am,aM,aE,aD,ar,ap⟩:=ag.c8 BX;go_wp2_with (go_at_call 289;(with_reducible refine (HI.o _ LU.o).mono ?_);rintro e w2 ⟨rfl,rfl⟩);obtain⟨W2,C⟩:=aH (m.alloc (.cells (BC x K E G x.ar.length H) 67 (0,0)));have ng:=qh (show Kp g w W2 by rw[C];exact LP.o.alloc _);have a8:=qh (show aP W2 g s D by rw[C];exact LU.o.alloc _);have bd:=qh (show ZB W2 w.heap.size by rw[C];exact BR.alloc _);have Bh:=qh (show W2.ownsRow m.heap.size 67 8 (bR (some ⟨m.heap.size,0,none⟩) 1 1) 1 (az x K E G H) by rw[C];exact Ef (ag.new m _ _) (b0 _) rfl);have Uz:=qh (show cO W2 (λ b=>W.heap.size<=b/\b≠m.heap.size) W2.heap.size x (az x K E G H) by
    have I:=(HX.o.keep p.o).imp (q:=λ b=>W.heap.size<=b/\b≠m.heap.size) (λ k f Q=>⟨f,by have:=p.o.1;omega⟩);rw[C];exact (I.keep (dI.of ((Below.refl _ _).alloc (b0 _) _))).up (by have:=p.o.1;simp;omega))
   have bf:W2.heap.size=m.heap.size+1:=by rw[C];simp
   rw[<- C];clear C BR BX ao an am aM aE aD ar ap;obtain⟨R,hR⟩:=af (Pz s.data.toList.length V [x] (wordsOf s.data.toList D));have be:=qh hR.symm;have Dx:((xQ.ok [x] (wordsOf s.data.toList D)).bind λ M l1=>Pz s.data.toList.length V M l1)=R:=hR;have HG:=qh Dx;clear Dx hR;go_loopw [10] (λ v wr=>∃ (d:List Ex) (css:List (List Value)) (A:Option Addr) (c F:Nat),v = bR A d.length c/\Hid (jc wr (λ b=>W.heap.size<=b/\some b≠(b1 A d.length c).ownBlock) d css)/\Hid (wr.ownsRow m.heap.size 67 8 (bR A d.length c) d.length css.flatten)/\Hid (m.heap.size<=wr.heap.size)/\Hid (aP wr g s F)/\Hid (Kp g w wr)/\Hid (ZB wr w.heap.size)/\Hid (R=Pz s.data.toList.length V d (wordsOf s.data.toList F))/\Hid (d.length+(wordsOf s.data.toList F).length<=4001/\(wordsOf s.data.toList F).length<=L.length)/\Hid (1<=d.length/\(d.length=1->mW (wordsOf s.data.toList F) word=true))) (λ v _=>4001 - (match v with
    | bR _ n _=>n
    | _=>0))
   case atStart =>
    refine⟨[x],[az x K E G H],some ⟨m.heap.size,0,none⟩,1,D,rfl,?_,?_,?_,a8,ng,bd,be,?_,qh ⟨b0 _,λ _=>dH.o⟩⟩
    .exact qh (jc.one (Uz.o.imp (λ k f _=>⟨f.1,λ e=>f.2 (by injection e)⟩)))
    .exact qh (by simpa using Bh.o)
    .exact qh (by omega)
    .have I:=wO HR.o;have h2:=xE s.data.toList (s.data.toList.length+1) D;rw[aT] at h2;have h3:(wordsOf s.data.toList D).length<=4000:=by have:=HP.o.s;unfold wordsOf;rw[aT];omega
     exact qh ⟨by simp;omega,I⟩
   case round =>
    obtain⟨d,css,A,c,F,rfl,HE,HO,XZ,Vq,Oj,G9,QI,J7,ak⟩:=hrel;obtain⟨b2,al⟩:=af (mW (wordsOf s.data.toList F) word);have ae:=qh (wP g s F wr Vq.o word ax.o);rw[al,HT.o] at ae;have YQ:=qh al;clear al;cases b2
    .go_wp2_with (go_at_call 289;(with_reducible refine ae.o.mono ?_);rintro e w3 ⟨rfl,rfl⟩);refine (iy o A d.length c wr).mono ?_;rintro e w3 ⟨rfl,S⟩;have B3:=G9.o.below S G9.o.lt;obtain⟨dM,jY,eQ,jZ,gW,oH,gX,oI,jM,yw,jO,yx,jP,yz,jQ,yA⟩:=ag.z8 B3;go_wp2_with fail;refine bodyPost_ret (v:=.agg #[bL bN 4,bL bN o,bO ⟨#[]⟩,bL bN 0,bL bN 0,bO ⟨#[]⟩,bR none 0 0,bR A d.length c]) (by simp[results,Tryz.results270,go_sem,dM,eQ,gW,gX,jM,jO,jP,jQ]) rfl ?_;have bA:d.length≠1:=λ e=>by have:=ak.o.2 e;rw[YQ.o] at this;cases this
     have B:R = .ok [kE o d] (wordsOf s.data.toList F):=by rw[QI.o,ay.o _ _ YQ.o,QH o (by have:=ak.o.1;omega)]
     rw[HG.o,B];have QJ:W.heap.size<=m.heap.size:=b3 z.size p.o.1;have N:dI (λ b=>W.heap.size<=b) wr (kT w3 w.heap.size (bL bN 4) (bL bN o) (bO ⟨#[]⟩) (bL bN 0) (bL bN 0) (bO ⟨#[]⟩) (bR none 0 0) (bR A d.length c)):=
      ⟨by rw[jK];exact S.size,λ k f Q=>by rw[fF _ _ _ _ _ _ _ _ _ _ k (by omega)];exact S.block k Q⟩
     have a6:d.length<=maxLen:=by have:=J7.o.1;unfold maxLen;omega
     refine⟨kE o d,F,_,rfl,rfl,rfl,?_,?_,uD (Oj.o.trans (Kp.of S)) (b0 _) _ _ _ _ _ _ _ _⟩
     .exact (((abZ o (HE.o.imp (λ k f _=>f.1)) QJ HO.o a6).keep N).up N.1).imp (λ k f _=>by omega)
     .exact (Vq.o.below S).kp (fF _ _ _ _ _ _ _ _ _ _ g (by omega))
    .have HN:=qh (next_any g s F wr Vq.o);have ad:=kL YQ.o;obtain⟨i3,Z⟩:=af (aN s F+(aK s F).length);rw[Z] at HN ad;have vN:=qh ad;clear Z ad;go_wp2_with (first | (go_at_call 289;(with_reducible refine ae.o.mono ?_);rintro e w3 ⟨rfl,rfl⟩) | (go_at_call 254;(with_reducible refine HN.o.mono ?_);rintro e w4 ⟨rfl,wQ,av⟩;have vO:=qh wQ;have oJ:=qh av;clear wQ av));have P:=IM.o (wordsOf s.data.toList i3) (by have:=vN.o.2;have:=J7.o.2;omega) g i3 _ vO.o (HM.o.kp (Oj.o.trans oJ.o)) rfl;obtain⟨r2,X⟩:=af (Pz s.data.toList.length YP [] (wordsOf s.data.toList i3));rw[X] at P;refine P.mono ?_;cases r2 with
     | err k =>
      rintro e J ⟨rfl,ac⟩;have B:R = .err k:=by rw[QI.o,aq.o _ _ YQ.o,<- vN.o.1,X];rfl
      go_wp2_with fail;refine⟨rfl,?_⟩;rw[HG.o,B];exact⟨rfl,(Oj.o.trans oJ.o).trans ac⟩
     | ok es2 l2 =>
      rintro e J ⟨y,i4,bs,rfl,rfl,rfl,hy,xX,ac⟩;have HY:=qh hy;obtain⟨bw,bg,br,bj,aX,a2,Z⟩:=hy;rename_i A3 c3 A4 c4 bp;clear aX a2 Z;have a4:(az y A3 c3 A4 c4).toArray = (BC y A3 c3 A4 y.ar.length c4):=rfl;rw[a4];have T:=oJ.o.trans ac;have aR:g<m.heap.size:=LU.o.b.lt;have PY:=qh (QG HO.o T aR);have Ib:=qh (Oj.o.trans T);have bq:=qh T;have Ic:=qh xX;have bn:m.heap.size<=J.heap.size:=by have:=PY.o.2;exact b3 XZ.o T.size
      obtain⟨i0,bb,a9,aA,ba⟩:=info_parts YO;have bl:d.length<=4001:=by have:=J7.o.1;omega
      go_wp2_with (at_builtin;refine wpList_append_lies _ rfl _ _ 52 rfl m.heap.size 67 i0 (.agg #[.int .i64 0,.int .i64 0,.string ⟨#[]⟩,.int .i64 0,.int .i64 0,.string ⟨#[]⟩,.slice none 0 0,.slice none 0 0]) 8 112 Tryz.underlying52 bb a9 aA ba rfl (by decide) _ _ _ rfl (PY.o.alloc _) ⟨J.heap.size,0,none⟩ 1 1 [.int .i64 y.k,.int .i64 y.op,.string y.nm,.int .i64 y.v.k,.int .i64 y.v.n,.string y.v.s,.slice A3 y.v.l.length c3,.slice A4 y.ar.length c4] rfl rfl ?d1 ?d2 (by decide) ?d3 ?d4 ?d5 _ rfl ?_)
      case d1=>exact b9 (ag.new J 67 _)
      case d2=>intro u hu;simp only[b4,b5,or_false] at hu;rcases hu with rfl | rfl | rfl | rfl | rfl | rfl | rfl | rfl <;> rfl
      case d3=>unfold maxLen;omega
      case d4=>omega
      case d5=>simp;omega
      intro g7 U w7 qO wE Ac Ol;have bk:Kp g J (J.alloc (.cells (BC y A3 c3 A4 y.ar.length c4) 67 (0,0))):=(zY g J).alloc _;go_wp2_with fail;go_roundw
      case rel =>
       have ab:∀ k,(b1 A d.length c).ownBlock=some k->m.heap.size<=k:=λ k f=>(PY.o.lt k f).1;have Y:=wE.size;have a1:w7.heap[g]?=J.heap[g]?:=(wE.block g (by have:=Ic.o.b.lt;simp;omega) (λ e=>by have:=ab g e.symm;omega)).trans (Below.heap_alloc J _ g Ic.o.b.lt);refine⟨d ++ [y],css ++ [az y A3 c3 A4 c4],some ⟨g7,0,none⟩,U,i4,by simp,?_,?_,?_,qh (Ic.o.kp a1),?_,?_,?_,?_,?_⟩
       .have I:=HE.o.imp (q:=λ b=>(W.heap.size<=b/\some b≠(b1 A d.length c).ownBlock)/\some b≠some g7) (λ k f Q=>⟨f,λ e=>by
         injection e with e;rcases Ac with h | h
         .exact f.2 (by rw[h,e])
         .have:=T.size
          try simp at h
          omega⟩)
        have h2:=(I.keep (w':=w7) ⟨by have:=T.size;simp at Y;omega,λ k f Q=>by
         have hz:=T.size;rw[wE.block k (by simp;omega) f.1.2,Below.heap_alloc J _ k (by omega)];exact T.block k Q (λ e=>by injection e with e;have:=iV.o.b.lt;have:=f.1.1;omega)⟩).imp (q:=λ b=>W.heap.size<=b/\some b≠(b1 (some ⟨g7,0,none⟩) (d ++ [y]).length U).ownBlock) (λ k f _=>⟨f.1.1,f.2⟩)
        have aw:∀ k,(b1 A d.length c).ownBlock=some k->k<wr.heap.size:=λ k f=>(HO.o.lt k f).2;have bE:=oJ.o.size;have bx:W.heap.size<=m.heap.size:=b3 z.size p.o.1;have aA:=XZ.o;have h3:=HY.o.imp (q:=λ b=>b<J.heap.size/\(W.heap.size<=b/\some b≠(b1 (some ⟨g7,0,none⟩) (d ++ [y]).length U).ownBlock)/\some b≠(b1 A d.length c).ownBlock) (λ k f Q=>⟨Q,⟨by omega,λ e=>by
         have e':k=g7:=by injection e
         rcases Ac with h | h
         .have:=aw g7 h;omega
         .try simp at h
          omega⟩,λ e=>by
         have:=aw k e.symm;omega⟩)
        have h4:=((h3.keep (w':=w7) ⟨by simp at Y;omega,λ k f Q=>by
         rw[wE.block k (by simp;omega) f.2.2,Below.heap_alloc J _ k Q]⟩).up (B':=w7.heap.size) (by simp at Y;omega)).imp (q:=λ b=>W.heap.size<=b/\some b≠(b1 (some ⟨g7,0,none⟩) (d ++ [y]).length U).ownBlock) (λ k f _=>f.2.1)
        exact qh (h2.snoc h4)
       .have e1:(d ++ [y]).length=d.length+1:=by simp
        have e2:(css ++ [az y A3 c3 A4 c4]).flatten=css.flatten ++ az y A3 c3 A4 c4:=by simp
        rw[e1,e2];exact qh qO
       .exact qh (by simp at Y;omega)
       .exact qh ((Ib.o.alloc _).grown wE (λ k f=>by
         have I:=ab k f;have h2:=p.o.1;have h3:=z.size;omega))
       .have h2:=p.o.1;have h3:=z.size;have h4:=G9.o.lt;have h5:=T.size;have h6:ZB w7 w.heap.size:=by
         (try unfold ZB);unfold ag
         rw[wE.block _ (by simp;omega) (λ e=>by have:=ab _ e.symm;omega),Below.heap_alloc J _ _ (by omega),T.block _ h4 (λ e=>by injection e with e;omega)];exact G9.o
        exact qh h6
       .have I:R=Pz s.data.toList.length V (d ++ [y]) (wordsOf s.data.toList i4):=by rw[QI.o,aq.o _ _ YQ.o,<- vN.o.1,X];rfl
        exact qh I
       .have I:=wO X;have h2:=vN.o.2;have h3:=J7.o;exact qh ⟨by simp;omega,by omega⟩
       .have I:=ak.o.1;exact qh ⟨by simp,λ e=>by simp at e;rw[e] at I;exact absurd I (by decide)⟩
      case measure =>
       have I:=J7.o.1;have h2:=vN.o.2;simp;omega
theorem Om (g:Nat) (s:ByteArray) (i:Nat) (w:World) (h:aP w g s i) (d:TM w g) (L:List Tok) (f:wordsOf s.data.toList i=L) (j:∀ c,c.length<=L.length->fE 271 .and s c) :
  Calls Tryz.prog 270 #[bS (some ⟨g,0,none⟩),bO (tb orW),bL bN 3,.func (.func 271) #[bS (some ⟨g,0,none⟩)] #[]] w λ e w'=>vM w g s ((Pz s.data.toList.length .and [] L).bind λ b l1=>Pz s.data.toList.length .Uu b l1) e w':=
 Dw 271 .and .Uu 3 orW (by decide) (λ a W=>by simp[callFunc,go_sem,Tryz.func271,Tryz.f271]) s.data.toList.length (λ b l h=>abO h) (λ b l h=>by
  rw[iJ];dsimp only[iI];rw[if_pos h]) g s i w rfl h d L f j
theorem Oo (g:Nat) (s:ByteArray) (i:Nat) (w:World) (h:aP w g s i) (d:TM w g) (L:List Tok) (f:wordsOf s.data.toList i=L) (j:∀ c,c.length<=L.length->fE 291 .not s c) :
  Calls Tryz.prog 270 #[bS (some ⟨g,0,none⟩),bO (tb XH),bL bN 2,.func (.func 291) #[bS (some ⟨g,0,none⟩)] #[]] w λ e w'=>vM w g s ((Pz s.data.toList.length .not [] L).bind λ b l1=>Pz s.data.toList.length .BP b l1) e w':=
 Dw 291 .not .BP 2 XH (by decide) (λ a W=>by simp[callFunc,go_sem,Tryz.func291,Tryz.f291]) s.data.toList.length (λ b l h=>Yv h) (λ b l h=>by
  rw[iJ];dsimp only[iI];rw[if_pos h]) g s i w rfl h d L f j
def rC (l:List Tok) (sg:List (ByteArray × Int)):Int:=sg.foldl (λ o d=>if mW l d.1.data.toList then d.2 else o) 0
theorem Vr (l:List Tok) (a:List (ByteArray × Int)) (d:ByteArray × Int):rC l (a ++ [d])=if mW l d.1.data.toList then d.2 else rC l a:=by simp[rC,List.foldl_append]
def Tq (b:Bool) (x w:List UInt8):Bool:=!b && decide (x=w)
def Oq (b:Bool) (x:List UInt8) (a c:Int):Int:=if Tq b x [] then 0 else match ([4,5,6,7,8,9,10,11,15,16,17,18,19]:List Int).find? (λ o=>decide (a<=o) && decide (o<=c) && decide (dN o≠[]) && Tq b x (dN o)) with
 | some o=>o
 | none=>0
def QK (b:Bool) (x:List UInt8) (sg:List (ByteArray × Int)):Int:=sg.foldl (λ o d=>if Tq b x d.1.data.toList then d.2 else o) 0
theorem Ae (a c:Int) (t:Tok) (r:List Tok):gJ a c (t :: r)=Oq t.touch t.tx a c:=rfl
theorem Ot (t:Tok) (r:List Tok) (sg:List (ByteArray × Int)):rC (t :: r) sg=QK t.touch t.tx sg:=rfl
theorem FY (x:List UInt8) (a c:Int):Oq true x a c=0:=by
 unfold Oq;rw[if_neg (by simp[Tq]),b7.2 (λ o _=>by simp[Tq])]
theorem YR (b:Bool) (x:List UInt8):QK b x ja=Oq b x 15 16:=by
 cases b
 .by_cases h1:x = [43]
  .subst h1;decide
  .by_cases h2:x = [45]
   .subst h2;decide
   .simp[QK,Oq,Tq,ja,dN,h1,h2]
 .rw[FY];simp[QK,Tq,ja]
theorem YS (b:Bool) (x:List UInt8):QK b x jb=Oq b x 17 19:=by
 cases b
 .by_cases h1:x = [42]
  .subst h1;decide
  .by_cases h2:x = [47]
   .subst h2;decide
   .by_cases h3:x = [109,111,100]
    .subst h3;decide
    .simp[QK,Oq,Tq,jb,dN,h1,h2,h3]
 .rw[FY];simp[QK,Tq,jb]
theorem Vs (l:List Tok):rC l ja=gJ 15 16 l:=by
 cases l with
 | nil=>rfl
 | cons t r=>rw[Ot,Ae,YR]
theorem Vt (l:List Tok):rC l jb=gJ 17 19 l:=by
 cases l with
 | nil=>rfl
 | cons t r=>rw[Ot,Ae,YS]
theorem QL {l:List Tok} {k:Nat} (h:k<fB.length) (e:∀ d∈fB.take k,mW l d.1.data.toList=false) (a:mW l fB[k].1.data.toList=true):gJ 4 11 l=fB[k].2:=by
 cases l with
 | nil=>cases a
 | cons t r =>
  rw[Ae];have a:Tq t.touch t.tx fB[k].1.data.toList=true:=a;unfold Tq at a;rw[Bool.and_eq_true,decide_eq_true_iff] at a;obtain⟨b,c⟩:=a;have g:k<8:=h;have f:t.touch=false:=by simpa using b
  clear e b;rw[f,c];clear f c a;obtain rfl | rfl | rfl | rfl | rfl | rfl | rfl | rfl:k=0\/k=1\/k=2\/k=3\/k=4\/k=5\/k=6\/k=7:=by omega
  all_goals decide +revert
theorem Vu {l:List Tok} (a:∀ d∈fB,mW l d.1.data.toList=false):gJ 4 11 l=0:=by
 cases l with
 | nil=>rfl
 | cons t r =>
  rw[Ae];have a:∀ d∈fB,Tq t.touch t.tx d.1.data.toList=false:=a;obtain⟨b,m⟩:=af (t.touch);obtain⟨x,c⟩:=af (t.tx);rw[m,c] at a ⊢;cases b
  .simp only[fB,List.forall_mem_cons,Tq,Bool.not_false,Bool.true_and,decide_eq_false_iff_not] at a;obtain⟨i,k,e,f,g,j,h,n,-⟩:=a;simp[Oq,Tq,dN,i,k,e,f,g,j,h,n]
  .exact FY _ _ _
theorem Vw (w:World):Calls Tryz.prog 279 #[] w λ e w'=>e = bX (bR (some ⟨w.heap.size,0,none⟩) ja.length ja.length)/\ag w' w.heap.size 359 (mr ja).toArray/\EG w w':=by
 go_enter Tryz.func279,Tryz.ntmps279;go_wp2_with fail;go_ret;have e:(mr ja).toArray = #[bO ⟨#[43]⟩,bL bN 15,bO ⟨#[45]⟩,bL bN 16]:=by kernel_rfl
 exact⟨rfl,by rw[e];exact ag.new w 359 #[bO ⟨#[43]⟩,bL bN 15,bO ⟨#[45]⟩,bL bN 16],(Below.refl _ w).alloc (b0 _) _⟩
theorem Vx (w:World):Calls Tryz.prog 280 #[] w λ e w'=>e = bX (bR (some ⟨w.heap.size,0,none⟩) jb.length jb.length)/\ag w' w.heap.size 359 (mr jb).toArray/\EG w w':=by
 go_enter Tryz.func280,Tryz.ntmps280;go_wp2_with fail;go_ret;have e:(mr jb).toArray = #[bO ⟨#[42]⟩,bL bN 17,bO ⟨#[47]⟩,bL bN 18,bO ⟨#[109,111,100]⟩,bL bN 19]:=by kernel_rfl
 exact⟨rfl,by rw[e];exact ag.new w 359 #[bO ⟨#[42]⟩,bL bN 17,bO ⟨#[47]⟩,bL bN 18,bO ⟨#[109,111,100]⟩,bL bN 19],(Below.refl _ w).alloc (b0 _) _⟩
theorem FZ:vU=fC.map (λ d=>(d.2,d.1.data.toList)):=by decide
theorem QM {w:List UInt8} {k:Nat} (e:k<fC.length) (a:∀ d∈fC.take k,d.1.data.toList≠w) (f:fC[k].1.data.toList=w):kZ w=fC[k].2:=by
 unfold kZ;have h:vU.find? (λ p=>decide (p.2=w))=some (fC[k].2,fC[k].1.data.toList):=by
  rw[FZ,List.find?_eq_some_iff_append];refine⟨by simpa using f,(fC.take k).map (λ d=>(d.2,d.1.data.toList)),(fC.drop (k+1)).map (λ d=>(d.2,d.1.data.toList)),?_,?_⟩
  .rw[show ((fC[k].2,fC[k].1.data.toList) :: (fC.drop (k+1)).map (λ d=>(d.2,d.1.data.toList)))=(fC[k] :: fC.drop (k+1)).map (λ d=>(d.2,d.1.data.toList)) from rfl,<- List.drop_eq_getElem_cons e,<- List.map_append,List.take_append_drop]
  .intro x b;obtain⟨d,c,rfl⟩:=ca.1 b;simpa using a d c
 rw[h]
theorem Vy {w:List UInt8} (a:∀ d∈fC,d.1.data.toList≠w):kZ w=0:=by
 unfold kZ;rw[b7.2 (λ p b=>by rw[FZ] at b;obtain⟨d,c,rfl⟩:=ca.1 b;simpa using a d c)]
theorem xK {s:List UInt8} {i:Nat} {t:Tok} (h:dG s i=some t) {w:List UInt8} (e:t.tx=40 :: w):t.tx = [40]:=by
 obtain⟨-,f,-,-,-,a,-⟩:=fP h;rw[drop_cons f] at a;obtain⟨c,g⟩:=af (s.getD t.at_ 0);obtain⟨r,k⟩:=af (s.drop (t.at_+1));rw[g,k,e] at a;have l:=Dh c r;obtain⟨m,j⟩:∃ m,dA (c :: r)=m+1:=⟨dA (c :: r) - 1,by omega⟩;rw[j,List.take_succ_cons] at a;injection a with h1 h2;subst h1;have n:dA (40 :: r)=1:=by
  rw[dA,if_neg (by decide),if_neg (by decide),if_neg (by decide),if_neg (by decide),if_neg (by decide),if_neg (by decide)];cases r with
  | nil=>rfl
  | cons d r=>show (if Qc 40 d then 2 else 1)=1;rw[if_neg (by simp[Qc])]
 have b:m=0:=by omega
 rw[e,h2,b];rfl
theorem CE {s:List UInt8} {x:Val} (h:di x=0) (a:showT x.k x.n x.s.data.toList x.l=s):ve s=some x:=by
 rw[<- a];exact QA h
theorem QN {w:List UInt8} {k:Nat} (c:0<k) (b:k<7) (a:kW (k:Nat)=w):gy w=(k:Nat):=by
 subst a;obtain rfl | rfl | rfl | rfl | rfl | rfl:k=1\/k=2\/k=3\/k=4\/k=5\/k=6:=by omega
 all_goals decide
theorem Vz {w:List UInt8} (h:∀ k:Nat,0<k->k<7->kW (k:Nat)≠w):gy w=0:=by
 have e:=h 1 (by omega) (by omega);have g:=h 2 (by omega) (by omega);have b:=h 3 (by omega) (by omega);have c:=h 4 (by omega) (by omega);have d:=h 5 (by omega) (by omega);have f:=h 6 (by omega) (by omega);unfold gy;rw[b7.2 (λ o a=>?_)];simp only[b4,b5,or_false] at a;rw[decide_eq_true_iff];rcases a with rfl | rfl | rfl | rfl | rfl | rfl
 .exact e
 .exact g
 .exact b
 .exact c
 .exact d
 .exact f
theorem ab1 (k:Nat) (h:k<wJ.length):wJ[k]=tb (kW (k:Nat)):=by
 have a:k<7:=h;obtain rfl | rfl | rfl | rfl | rfl | rfl | rfl:k=0\/k=1\/k=2\/k=3\/k=4\/k=5\/k=6:=by omega
 all_goals rfl
theorem YT (w:List UInt8):0<=gy w:=by
 unfold gy;split
 .rename_i o a;have:=cb a;simp only[b4,b5,or_false] at this;omega
 .exact Int.le_refl _
theorem aej (w:List UInt8):0<=kZ w/\kZ w<=39/\(kZ w≠0->12<=kZ w):=by
 unfold kZ;split
 .rename_i o d;have b:=cb d;have c:(vU.all λ p=>decide (12<=p.1/\p.1<=39))=true:=by decide
  have a:=List.all_eq_true.1 c o b;rw[decide_eq_true_iff] at a;omega
 .exact⟨Int.le_refl _,by decide,λ h=>absurd rfl h⟩
end Go.Proofs.YtcnagconagpkcaaGreatDoor
namespace Go.Proofs.YtcnagconagpkcaaGreatDoor
open Go.RowKit Vtx
attribute [local go_sem ↓] Go.wp_at_zero Go.wp_at_succ
theorem sO {w a:World} {g i:Nat} {s:ByteArray} {x:Ex} {A A':Option Addr} {c c':Nat} {L:Nat} (h:cO a (λ b=>L<=b) a.heap.size x (az x A c A' c')) (m:w.heap.size<L) (l:g<w.heap.size) (f:aP a g s i) (e:Kp g w a) :
  vM w g s (.ok [x] (wordsOf s.data.toList i)) (bX (.agg (BC x A c A' x.ar.length c'))) (kT a w.heap.size (bL bN x.k) (bL bN x.op) (bO x.nm) (bL bN x.v.k) (bL bN x.v.n) (bO x.v.s) (bR A x.v.l.length c) (bR A' x.ar.length c')):=by
 have d:dI (λ b=>L<=b) a (kT a w.heap.size (bL bN x.k) (bL bN x.op) (bO x.nm) (bL bN x.v.k) (bL bN x.v.n) (bO x.v.s) (bR A x.v.l.length c) (bR A' x.ar.length c')):=
  ⟨by rw[jK];exact b0 _,λ k e j=>by rw[fF _ _ _ _ _ _ _ _ _ _ k (by omega)]⟩
 exact⟨x,i,az x A c A' c',rfl,rfl,rfl,((h.keep d).up d.1).imp (λ k e _=>by omega),f.kp (fF _ _ _ _ _ _ _ _ _ _ g (by omega)),uD e (b0 _) _ _ _ _ _ _ _ _⟩
theorem addr_add (b o n:Nat):(⟨b,o,none⟩:Addr).add n=⟨b,o+n,none⟩:=by unfold Addr.add;split <;> simp_all
theorem YU {w:World} {g i j:Nat} {s:ByteArray} (h:aP w g s i) (m:aP w g s j):wordsOf s.data.toList i=wordsOf s.data.toList j:=by
 have e:=h.b.symm.trans m.b;have n:(#[bO s,bL bN (aN s i:Nat),bO (tb (aK s i)),bT (fV s i)]:Array Value) = #[bO s,bL bN (aN s j:Nat),bO (tb (aK s j)),bT (fV s j)]:=by
  injection e with e;injection e
 have l:=congrArg Array.toList n;simp only[List.cons.injEq,Value.int.injEq,Value.string.injEq,Value.bool.injEq,true_and,and_true] at l;obtain⟨f,d,e3⟩:=l;have f:aN s i=aN s j:=by omega
 have d:=J6 d;unfold aN at f;unfold aK at d;unfold fV at e3;rw[gZ s.data.toList i,gZ s.data.toList j];cases hi:dG s.data.toList i with
 | none =>
  cases hj:dG s.data.toList j with
  | none=>rfl
  | some u =>
   rw[hi,hj] at d;have k:=(fP hj).2.2.1;have d : []=u.tx:=d;rw[<- d] at k;exact absurd k (by simp)
 | some t =>
  cases hj:dG s.data.toList j with
  | none =>
   rw[hi,hj] at d;have k:=(fP hi).2.2.1;have d:t.tx = []:=d;rw[d] at k;exact absurd k (by simp)
  | some u =>
   rw[hi,hj] at f d e3;obtain⟨a,b,c⟩:=t;obtain⟨o,p,c'⟩:=u;simp only at f d e3;subst f d e3;rfl
open Classical in
noncomputable def ab2 (w:World) (g:Nat) (s:ByteArray):Nat:=if h:∃ i,aP w g s i then (wordsOf s.data.toList h.choose).length else 0
theorem YV {w:World} {g i:Nat} {s:ByteArray} (h:aP w g s i):ab2 w g s=(wordsOf s.data.toList i).length:=by
 have a:∃ i,aP w g s i:=⟨i,h⟩;unfold ab2;rw[dif_pos a,YU a.choose_spec h]
theorem qP {s:ByteArray} {i:Nat} (h:wordsOf s.data.toList i≠[]):wordsOf s.data.toList (aN s i+(aK s i).length)=(wordsOf s.data.toList i).tail/\(wordsOf s.data.toList (aN s i+(aK s i).length)).length+1=(wordsOf s.data.toList i).length:=by
 unfold aN aK;rw[gZ s.data.toList i] at h ⊢;cases ht:dG s.data.toList i with
 | none=>rw[ht] at h;exact absurd rfl h
 | some t=>exact⟨rfl,rfl⟩
theorem Gf {a b:Int} {l:List Tok} (h:gJ a b l≠0):l≠[]:=by
 rintro rfl;exact h (by unfold gJ;rw[if_neg (by simp[mW]),b7.2 (λ o _=>by simp[mW])])
theorem ab3 {w:World} {b B:Nat} {e:TypeId} {cs ds:List Value} (h:ag w b e (cs ++ ds).toArray) (d:B<=b) (a:cs.length=8) (c:ds.length=8):w.ownsRow B e 8 (bR (some ⟨b,0,none⟩) 2 2) 2 (cs ++ ds):=
 ⟨by simp[a,c],.inr ⟨b,2,(cs ++ ds).toArray,rfl,d,h,b0 _,by unfold maxLen;omega,by simp[a,c],by rw[show 2*8=(cs ++ ds).length by simp[a,c]];exact List.take_length⟩⟩
theorem jc.two {w:World} {p:Nat->Prop} {e f:Ex} {cs ds:List Value} (b:cO w p w.heap.size e cs) (a:cO w p w.heap.size f ds):jc w p [e,f] [cs,ds]:=(jc.one b).snoc a
theorem Gg {w:World} {p:Nat->Prop} {B:Nat} {a:List Ex} {css:List (List Value)} {A:Option Addr} {c:Nat} (o:Int) (h:jc w p a css) (s:∀ k,B<=k->p k) (g:w.ownsRow B 67 8 (bR A a.length c) a.length css.flatten) (r:a.length<=maxLen) :
  cO w p w.heap.size (kE o a) (az (kE o a) none 0 A c):=by
 have q:∀ ad,A=some ad->p ad.block:=λ ad e=>by
  subst e;rcases g.2 with ⟨j,-⟩ | ⟨t,n,m,d,l,-⟩
  .cases j
  .injection d with d _ _;injection d with d;subst d;exact s _ l
 refine cO.mk (e:=kE o a) (A:=none) (c:=0) (A':=A) (c':=c) (cs:=css.flatten) (show 0<=maxLen from b6 _) (show 0<=maxLen from b6 _) (show 0<=maxLen from b6 _) r ⟨Reads.none_,λ _ ad e=>by cases e⟩ ⟨Reads.fM g,λ _=>q⟩ (λ i f=>?_);have b:i<css.length:=by rw[<- h.len];exact f
 rw[Tn css h.cells i b];exact h.ex i f b
theorem YW {q:Nat->Prop} {a w6:World} {y e:Ex} {A A' f g:Option Addr} {c c' j h:Nat} (o:Int) (m:cO a q a.heap.size y (az y A c A' c')) (i:cO a q a.heap.size e (az e f j g h))
  (l:Below (a.alloc (.cells (az y A c A' c' ++ az e f j g h).toArray 67 (0,0))).heap.size (a.alloc (.cells (az y A c A' c' ++ az e f j g h).toArray 67 (0,0))) w6) (p:∀ k,a.heap.size<=k->q k) :
  cO w6 q w6.heap.size (kE o [y,e]) (az (kE o [y,e]) none 0 (some ⟨a.heap.size,0,none⟩) 2):=by
 have d:dI q a (a.alloc (.cells (az y A c A' c' ++ az e f j g h).toArray 67 (0,0))):=dI.of ((Below.refl _ _).alloc (b0 _) _);have b:dI q _ w6:=dI.of l;have n:ag w6 a.heap.size 67 (az y A c A' c' ++ az e f j g h).toArray:=(ag.new a _ _).below l (ag.new a _ _).lt;exact Gg (B:=a.heap.size) o (jc.two (((m.keep d).keep b).up (b3 d.1 b.1)) (((i.keep d).keep b).up (b3 d.1 b.1))) p (by simpa using ab3 n (b0 _) (zZ m) (zZ i)) (show 2<=maxLen by decide)
theorem QO {q:Nat->Prop} {a w6:World} {y:Ex} {A A':Option Addr} {c c':Nat} (o:Int) (f:cO a q a.heap.size y (az y A c A' c'))
  (b:Below (a.alloc (.cells (az y A c A' c').toArray 67 (0,0))).heap.size (a.alloc (.cells (az y A c A' c').toArray 67 (0,0))) w6) (g:∀ k,a.heap.size<=k->q k) :
  cO w6 q w6.heap.size (kE o [y]) (az (kE o [y]) none 0 (some ⟨a.heap.size,0,none⟩) 1):=by
 have e:dI q a (a.alloc (.cells (az y A c A' c').toArray 67 (0,0))):=dI.of ((Below.refl _ _).alloc (b0 _) _);have d:dI q _ w6:=dI.of b;have h:ag w6 a.heap.size 67 (az y A c A' c').toArray:=(ag.new a _ _).below b (ag.new a _ _).lt;exact Gg (B:=a.heap.size) o (jc.one (((f.keep e).keep d).up (b3 e.1 d.1))) g (by simpa using Ef h (b0 _) (zZ f)) (show 1<=maxLen by decide)
theorem Eg {w:World} {q:Nat->Prop} {x:Ex} {cs:List Value} {b:Nat} (h:cO w q w.heap.size x cs) (l:∀ k,q k->k≠b) (c i f a e g d j:Value):cO (kT w b c i f a e g d j) q (kT w b c i f a e g d j).heap.size x cs:=
 (h.keep ⟨by rw[jK];exact b0 _,λ k m _=>fF _ _ _ _ _ _ _ _ _ _ k (l k m)⟩).up (by rw[jK];exact b0 _)
theorem cO.YX {w w':World} {q:Nat->Prop} {g:Nat} {x:Ex} {cs:List Value} (h:cO w q w.heap.size x cs) (a:Kp g w w') (b:∀ k,q k->k≠g):cO w' q w'.heap.size x cs:=(h.keep (a.stay b)).up a.size
theorem ag.kp {w w':World} {g b:Nat} {T:TypeId} {a:Array Value} (h:ag w b T a) (d:Kp g w w') (f:b≠g):ag w' b T a:=by
 have c:=d.block b h.lt (λ e=>f (by injection e))
 (try unfold ZB);unfold ag
 rw[c];exact h
theorem TM.below {w w':World} {g:Nat} (h:TM w g) (a:EG w w'):TM w' g:=h.kp (Kp.of a)
theorem ab4 (s:ByteArray) (L:List Tok) (h:∀ K,K.length<=L.length->fE 271 .and s K):fE 255 .or s L:=by
 intro g i w l J Y;have t:=qh (λ W (z:aP W g s i) (p:TM W g)=>Om g s i W z p L Y h);rw[show tb orW=⟨#[111,114]⟩ from rfl,show ((Pz s.data.toList.length .and [] L).bind λ I l1=>Pz s.data.toList.length .Uu I l1)=Pz s.data.toList.length .or [] L from by rw[iJ _ .or];rfl] at t;have N:=qh l;have Q:=qh J;have E:=l.b.lt;obtain⟨r,F⟩:=af (Pz s.data.toList.length .or [] L);rw[F] at t ⊢;clear l J F;go_enter Tryz.func255,Tryz.ntmps255;go_wp2_with fail;obtain⟨W,D,b,C,-,y,-⟩:=fA g w;have V:=qh (show aP W g s i by rw[D];exact N.o.alloc _);rw[<- D];clear D;refine (t.o W V.o (Q.o.kp b)).mono ?_;cases r with
 | err k =>
  rintro e G ⟨rfl,a⟩;go_wp2_with fail;exact⟨rfl,rfl,b.trans a⟩
 | ok I l1 =>
  rintro e G ⟨x,i1,P,rfl,rfl,rfl,d,o,a⟩;have D8:=qh d;obtain⟨j,q,A,f,Z,O,c⟩:=d;rename_i u n m B Ou;clear Z O c j q A f;have H:(az x u n m B).toArray = (BC x u n m x.ar.length B):=rfl;rw[H];clear H;have B1:ZB G w.heap.size:=by (try unfold ZB);unfold ag;rw[a.block _ C.lt (λ e=>by injection e with e;omega)];exact C
  clear C;obtain⟨dM,jY,X,jZ,S,oH,U,oI,jM,yw,T,yx,M,yz,R,yA⟩:=ag.z8 B1;go_wp2_with fail;refine bodyPost_ret (v:=.agg (BC x u n m x.ar.length B)) (by simp[results,Tryz.results255,go_sem,dM,X,S,U,jM,T,M,R]) rfl ?_;exact sO D8.o y E o (b.trans a)
theorem YY (s:ByteArray) (L:List Tok) (h:∀ K,K.length<=L.length->fE 291 .not s K):fE 271 .and s L:=by
 intro g i w l J Y;have t:=qh (λ W (z:aP W g s i) (p:TM W g)=>Oo g s i W z p L Y h);rw[show tb XH=⟨#[97,110,100]⟩ from rfl,show ((Pz s.data.toList.length .not [] L).bind λ I l1=>Pz s.data.toList.length .BP I l1)=Pz s.data.toList.length .and [] L from by rw[iJ _ .and];rfl] at t;have N:=qh l;have Q:=qh J;have E:=l.b.lt;obtain⟨r,F⟩:=af (Pz s.data.toList.length .and [] L);rw[F] at t ⊢;clear l J F;go_enter Tryz.func271,Tryz.ntmps271;go_wp2_with fail;obtain⟨W,D,b,C,-,y,-⟩:=fA g w;have V:=qh (show aP W g s i by rw[D];exact N.o.alloc _);rw[<- D];clear D;refine (t.o W V.o (Q.o.kp b)).mono ?_;cases r with
 | err k =>
  rintro e G ⟨rfl,a⟩;go_wp2_with fail;exact⟨rfl,rfl,b.trans a⟩
 | ok I l1 =>
  rintro e G ⟨x,i1,P,rfl,rfl,rfl,d,o,a⟩;have D8:=qh d;obtain⟨j,q,A,f,Z,O,c⟩:=d;rename_i u n m B Ou;clear Z O c j q A f;have H:(az x u n m B).toArray = (BC x u n m x.ar.length B):=rfl;rw[H];clear H;have B1:ZB G w.heap.size:=by (try unfold ZB);unfold ag;rw[a.block _ C.lt (λ e=>by injection e with e;omega)];exact C
  clear C;obtain⟨dM,jY,X,jZ,S,oH,U,oI,jM,yw,T,yx,M,yz,R,yA⟩:=ag.z8 B1;go_wp2_with fail;refine bodyPost_ret (v:=.agg (BC x u n m x.ar.length B)) (by simp[results,Tryz.results271,go_sem,dM,X,S,U,jM,T,M,R]) rfl ?_;exact sO D8.o y E o (b.trans a)
def akK (w:World) (g:Nat) (s:ByteArray) (r:xQ) (e:Ending) (w':World):Prop:=match r with
 | .ok es l'=>∃ i css A c,l'=wordsOf s.data.toList i/\e = bX (bR A es.length c)/\jc w' (λ b=>w.heap.size<=b) es css/\w'.ownsRow w.heap.size 67 8 (bR A es.length c) es.length css.flatten/\es.length<=4001/\aP w' g s i/\Kp g w w'
 | .err k=>e=Jc k/\Kp g w w'
theorem Ie (g:Nat) (s:ByteArray) (i:Nat) (w:World) (h:aP w g s i) (hm:TM w g) (o:Int) (L:List Tok) (hL:wordsOf s.data.toList i=L) (hP:∀ L',L'.length<=L.length->fE 255 .or s L') :
  Calls Tryz.prog 330 #[bS (some ⟨g,0,none⟩),bL bN o] w λ e w'=>akK w g s (Pz s.data.toList.length (.args o) [] L) e w':=by
 have bh:=h.b.lt;have Y:Pz s.data.toList.length (.args o) [] L=(Pz s.data.toList.length .or [] L).bind λ es l1=>Pz s.data.toList.length (.qc o) es l1:=by rw[iJ];rfl
 rw[Y];have H1:=qh (hP L (b0 _) g i w h hm hL);have HM:=qh hm;obtain⟨r,hr⟩:=af (Pz s.data.toList.length .or [] L);rw[hr] at H1 ⊢;have HR:=qh hr;have lL:=qh h;obtain⟨lo,am⟩:=af ((jL o).1);obtain⟨hi,Z⟩:=af ((jL o).2);have Ba:=qh (And.intro am Z);have ar:arV o = .tuple #[bL bN (lo:Nat),bL bN (hi:Nat)]:=by unfold arV;rw[am,Z]
 have a7:=qh (λ w'=>ar▸Iy o w');clear hr h hm Y am Z ar;go_enter Tryz.func330,Tryz.ntmps330;go_wp2_with (go_at_call 293;(with_reducible refine (a7.o _).mono ?_);rintro e w3 ⟨rfl,rfl⟩);refine H1.o.mono ?_;cases r with
 | err k =>
  rintro e p ⟨rfl,J⟩;go_wp2_with fail;exact⟨rfl,rfl,J⟩
 | ok es l1 =>
  rintro e p ⟨x,i1,bd,rfl,rfl,rfl,aq,aw,J⟩;have D8:=qh aq;obtain⟨a8,aA,a3,a4,wR,wS,av⟩:=aq;rename_i A1 c1 A2 c2 Ou;clear wR wS av a8 aA a3 a4;have oK:(az x A1 c1 A2 c2).toArray = (BC x A1 c1 A2 x.ar.length c2):=rfl;rw[oK];clear oK;have LU:=qh aw;have bg:=qh J;have bf:=J.size;clear aw;go_wp2_with fail;obtain⟨W2,I⟩:=aH (p.alloc (.cells (BC x A1 c1 A2 x.ar.length c2) 67 (0,0)));have ng:=qh (show Kp g w W2 by rw[I];exact J.alloc _);have a6:=qh (show aP W2 g s i1 by rw[I];exact LU.o.alloc _);have Bh:=qh (show W2.ownsRow p.heap.size 67 8 (bR (some ⟨p.heap.size,0,none⟩) 1 1) 1 (az x A1 c1 A2 c2) by rw[I];exact Ef (ag.new p _ _) (b0 _) rfl);have Uz:=qh (show cO W2 (λ b=>w.heap.size<=b/\b≠p.heap.size) W2.heap.size x (az x A1 c1 A2 c2) by
   have E:=D8.o.imp (q:=λ b=>w.heap.size<=b/\b≠p.heap.size) (λ k d m=>⟨d,by omega⟩);rw[I];exact (E.keep (dI.of ((Below.refl _ _).alloc (b0 _) _))).up (by simp))
  have bc:W2.heap.size=p.heap.size+1:=by rw[I];simp
  rw[<- I];clear I J;obtain⟨R,hR⟩:=af (Pz s.data.toList.length (.qc o) [x] (wordsOf s.data.toList i1));have bb:=qh hR.symm;have Dx:((xQ.ok [x] (wordsOf s.data.toList i1)).bind λ es l1=>Pz s.data.toList.length (.qc o) es l1)=R:=hR;have HG:=qh Dx;clear Dx hR;go_loopw [7] (λ v wr=>∃ (a:List Ex) (css:List (List Value)) (A:Option Addr) (c l:Nat),v = bR A a.length c/\Hid (jc wr (λ b=>w.heap.size<=b/\some b≠(b1 A a.length c).ownBlock) a css)/\Hid (wr.ownsRow p.heap.size 67 8 (bR A a.length c) a.length css.flatten)/\Hid (p.heap.size<=wr.heap.size)/\Hid (aP wr g s l)/\Hid (Kp g w wr)/\Hid (R=Pz s.data.toList.length (.qc o) a (wordsOf s.data.toList l))/\Hid (a.length+(wordsOf s.data.toList l).length<=4001/\(wordsOf s.data.toList l).length<=L.length)/\Hid (1<=a.length)) (λ v _=>4001 - (match v with
   | bR _ n _=>n
   | _=>0))
  case atStart =>
   refine⟨[x],[az x A1 c1 A2 c2],some ⟨p.heap.size,0,none⟩,1,i1,rfl,?_,?_,?_,a6,ng,bb,?_,qh (b0 _)⟩
   .exact qh (jc.one (Uz.o.imp (λ k d _=>⟨d.1,λ e=>d.2 (by injection e)⟩)))
   .exact qh (by simpa using Bh.o)
   .exact qh (by omega)
   .have E:=wO HR.o;have h2:=xE s.data.toList (s.data.toList.length+1) i1;rw[aT] at h2;have h3:(wordsOf s.data.toList i1).length<=4000:=by have:=LU.o.s;unfold wordsOf;rw[aT];omega
    exact qh ⟨by simp;omega,E⟩
  case round =>
   obtain⟨a,css,A,c,l,rfl,HE,HO,XZ,Vq,Oj,QI,J7,be⟩:=hrel;obtain⟨b2,ak⟩:=af (mW (wordsOf s.data.toList l) [44]);have aa:=qh (wP g s l wr Vq.o [44] (by decide));rw[ak,show tb [44]=⟨#[44]⟩ from rfl] at aa;have P:=qh ak;clear ak;by_cases m:a.length<lo
   .have ba:((a.length:Nat):Int)<((lo:Nat):Int):=by omega
    have ax:=qh (show a.length<(jL o).1 by rw[Ba.o.1];exact m);cases b2
    .have M:=qh (take_any g s l wr Vq.o [44] (by decide));rw[P.o,show tb [44]=⟨#[44]⟩ from rfl] at M;have aZ:=qh (show Calls Tryz.prog 323 #[bS (some ⟨g,0,none⟩),bO ⟨#[44]⟩] wr λ e w'=>e=Jc (aN s l)/\wr=w' from M.o.mono (λ e w' h=>by rw[if_neg (by decide)] at h;exact h));have f:R = .err (aN s l):=by rw[QI.o,iJ];dsimp only[iI];rw[if_pos (.inl ax.o)];unfold dL;rw[if_neg (by rw[P.o];decide),mJ]
     have jI:=qh f;clear f M;go_wp2_with (go_at_call 323;(with_reducible refine aZ.o.mono ?_);rintro e w4 ⟨rfl,rfl⟩);refine⟨rfl,?_⟩;rw[HG.o,jI.o];exact⟨rfl,Oj.o⟩
    .clear m;have M:=qh (take_any g s l wr Vq.o [44] (by decide));rw[show tb [44]=⟨#[44]⟩ from rfl] at M;have H:=kL P.o;obtain⟨i3,C⟩:=af (aN s l+(aK s l).length);rw[C] at M H;have al:=qh (show Calls Tryz.prog 323 #[bS (some ⟨g,0,none⟩),bO ⟨#[44]⟩] wr λ e w'=>e = bX (.tuple #[])/\aP w' g s i3/\Kp g wr w' from M.o.mono (λ e w' h=>by rw[P.o,if_pos rfl] at h;exact h));have Q:=qh H;have S:=qh (show a.length<(jL o).1\/(mW (wordsOf s.data.toList l) [44]=true/\a.length<(jL o).2) from .inl ax.o);clear C H M;go_wp2_with (first | (go_at_call 323;(with_reducible refine al.o.mono ?_);rintro e w4 ⟨rfl,wQ,V⟩;have vO:=qh wQ;have oJ:=qh V;clear wQ V));have j:=hP (wordsOf s.data.toList i3) (by have:=Q.o.2;have:=J7.o.2;omega) g i3 _ vO.o (HM.o.kp (Oj.o.trans oJ.o)) rfl;obtain⟨r2,z⟩:=af (Pz s.data.toList.length .or [] (wordsOf s.data.toList i3));rw[z] at j;refine j.mono ?_;cases r2 with
     | err k =>
      rintro e D ⟨rfl,G⟩;have f:R = .err k:=by rw[QI.o,iJ];dsimp only[iI];rw[if_pos S.o];unfold dL;rw[if_pos P.o,<- Q.o.1];dsimp only;rw[z];rfl
      go_wp2_with fail;refine⟨rfl,?_⟩;rw[HG.o,f];exact⟨rfl,(Oj.o.trans oJ.o).trans G⟩
     | ok es2 l2 =>
      rintro e D ⟨y,i4,a2,rfl,rfl,rfl,hy,xX,G⟩;have HY:=qh hy;obtain⟨a5,ay,a1,aD,ac,ae,C⟩:=hy;rename_i O N K c4 aX;clear ac ae C;rw[show (az y O N K c4).toArray = (BC y O N K y.ar.length c4) from rfl];have F:=oJ.o.trans G;have ab:g<p.heap.size:=by have:=LU.o.b.lt;omega
      have PY:=qh (QG HO.o F ab);have Ib:=qh (Oj.o.trans F);have a0:=qh F;have Ic:=qh xX;have aM:p.heap.size<=D.heap.size:=b3 XZ.o F.size;obtain⟨i0,ap,an,X,ao⟩:=info_parts YO;have aL:a.length<=4001:=by have:=J7.o.1;omega
      go_wp2_with (at_builtin;refine wpList_append_lies _ rfl _ _ 52 rfl p.heap.size 67 i0 (.agg #[.int .i64 0,.int .i64 0,.string ⟨#[]⟩,.int .i64 0,.int .i64 0,.string ⟨#[]⟩,.slice none 0 0,.slice none 0 0]) 8 112 Tryz.underlying52 ap an X ao rfl (by decide) _ _ _ rfl (PY.o.alloc _) ⟨D.heap.size,0,none⟩ 1 1 [.int .i64 y.k,.int .i64 y.op,.string y.nm,.int .i64 y.v.k,.int .i64 y.v.n,.string y.v.s,.slice O y.v.l.length N,.slice K y.ar.length c4] rfl rfl ?d1 ?d2 (by decide) ?d3 ?d4 ?d5 _ rfl ?_)
      case d1=>exact b9 (ag.new D 67 _)
      case d2=>intro u hu;simp only[b4,b5,or_false] at hu;rcases hu with rfl | rfl | rfl | rfl | rfl | rfl | rfl | rfl <;> rfl
      case d3=>unfold maxLen;omega
      case d4=>omega
      case d5=>simp;omega
      intro g7 t w7 qO U Ac Ol;go_wp2_with fail;go_roundw
      case rel =>
       have T:∀ k,(b1 A a.length c).ownBlock=some k->p.heap.size<=k:=λ k d=>(PY.o.lt k d).1;have B:=U.size;have ad:w7.heap[g]?=D.heap[g]?:=(U.block g (by have:=Ic.o.b.lt;simp;omega) (λ e=>by have:=T g e.symm;omega)).trans (Below.heap_alloc D _ g Ic.o.b.lt);refine⟨a ++ [y],css ++ [az y O N K c4],some ⟨g7,0,none⟩,t,i4,by simp,?_,?_,?_,qh (Ic.o.kp ad),?_,?_,?_,?_⟩
       .have E:=HE.o.imp (q:=λ b=>(w.heap.size<=b/\some b≠(b1 A a.length c).ownBlock)/\some b≠some g7) (λ k d m=>⟨d,λ e=>by
         injection e with e;rcases Ac with h | h
         .exact d.2 (by rw[h,e])
         .have:=F.size
          try simp at h
          omega⟩)
        have h2:=(E.keep (w':=w7) ⟨by have:=F.size;simp at B;omega,λ k d m=>by
         have hz:=F.size;rw[U.block k (by simp;omega) d.1.2,Below.heap_alloc D _ k (by omega)];exact F.block k m (λ e=>by injection e with e;have:=d.1.1;omega)⟩).imp (q:=λ b=>w.heap.size<=b/\some b≠(b1 (some ⟨g7,0,none⟩) (a ++ [y]).length t).ownBlock) (λ k d _=>⟨d.1.1,d.2⟩)
        have W:∀ k,(b1 A a.length c).ownBlock=some k->k<wr.heap.size:=λ k d=>(HO.o.lt k d).2;have a9:=oJ.o.size;have X:=XZ.o;have h3:=HY.o.imp (q:=λ b=>b<D.heap.size/\(w.heap.size<=b/\some b≠(b1 (some ⟨g7,0,none⟩) (a ++ [y]).length t).ownBlock)/\some b≠(b1 A a.length c).ownBlock) (λ k d m=>⟨m,⟨by omega,λ e=>by
         have e':k=g7:=by injection e
         rcases Ac with h | h
         .have:=W g7 h;omega
         .try simp at h
          omega⟩,λ e=>by
         have:=W k e.symm;omega⟩)
        have h4:=((h3.keep (w':=w7) ⟨by simp at B;omega,λ k d m=>by
         rw[U.block k (by simp;omega) d.2.2,Below.heap_alloc D _ k m]⟩).up (B':=w7.heap.size) (by simp at B;omega)).imp (q:=λ b=>w.heap.size<=b/\some b≠(b1 (some ⟨g7,0,none⟩) (a ++ [y]).length t).ownBlock) (λ k d _=>d.2.1)
        exact qh (h2.snoc h4)
       .have e1:(a ++ [y]).length=a.length+1:=by simp
        have e2:(css ++ [az y O N K c4]).flatten=css.flatten ++ az y O N K c4:=by simp
        rw[e1,e2];exact qh qO
       .exact qh (by simp at B;omega)
       .exact qh ((Ib.o.alloc _).grown U (λ k d=>by
         have E:=T k d;omega))
       .have E:R=Pz s.data.toList.length (.qc o) (a ++ [y]) (wordsOf s.data.toList i4):=by rw[QI.o,iJ];dsimp only[iI];rw[if_pos S.o];unfold dL;rw[if_pos P.o,<- Q.o.1];dsimp only;rw[z];rfl
        exact qh E
       .have E:=wO z;have h2:=Q.o.2;have h3:=J7.o;exact qh ⟨by simp;omega,by omega⟩
       .exact qh (by simp)
      case measure =>
       have E:=J7.o.1;have h2:=Q.o.2;simp;omega
   .have ba:¬ ((a.length:Nat):Int)<((lo:Nat):Int):=by omega
    have WE:=qh (show ¬ a.length<(jL o).1 by rw[Ba.o.1];exact m);cases b2
    .clear m;have f:R = .ok a (wordsOf s.data.toList l):=by rw[QI.o,iJ];dsimp only[iI];rw[if_neg (λ h=>by rcases h with h | h;exact WE.o h;exact absurd (h.1.symm.trans P.o) (by decide))]
     have jI:=qh f;clear f;go_wp2_with (go_at_call 289;(with_reducible refine aa.o.mono ?_);rintro e w3 ⟨rfl,rfl⟩);go_ret;rw[HG.o,jI.o];exact⟨l,css,A,c,rfl,by rfl,HE.o.imp (λ k d _=>d.1),own_base HO.o (by omega),by have:=J7.o.1;omega,Vq.o,Oj.o⟩
    .by_cases hh:a.length<hi
     .have Z:((a.length:Nat):Int)<((hi:Nat):Int):=by omega
      have aR:=qh (show a.length<(jL o).2 by rw[Ba.o.2];exact hh);clear m hh;have M:=qh (take_any g s l wr Vq.o [44] (by decide));rw[show tb [44]=⟨#[44]⟩ from rfl] at M;have H:=kL P.o;obtain⟨i3,C⟩:=af (aN s l+(aK s l).length);rw[C] at M H;have al:=qh (show Calls Tryz.prog 323 #[bS (some ⟨g,0,none⟩),bO ⟨#[44]⟩] wr λ e w'=>e = bX (.tuple #[])/\aP w' g s i3/\Kp g wr w' from M.o.mono (λ e w' h=>by rw[P.o,if_pos rfl] at h;exact h));have Q:=qh H;have S:=qh (show a.length<(jL o).1\/(mW (wordsOf s.data.toList l) [44]=true/\a.length<(jL o).2) from .inr ⟨P.o,aR.o⟩);clear C H M;go_wp2_with (first | (go_at_call 323;(with_reducible refine al.o.mono ?_);rintro e w4 ⟨rfl,wQ,V⟩;have vO:=qh wQ;have oJ:=qh V;clear wQ V) | (go_at_call 289;(with_reducible refine aa.o.mono ?_);rintro e w3 ⟨rfl,rfl⟩));have j:=hP (wordsOf s.data.toList i3) (by have:=Q.o.2;have:=J7.o.2;omega) g i3 _ vO.o (HM.o.kp (Oj.o.trans oJ.o)) rfl;obtain⟨r2,z⟩:=af (Pz s.data.toList.length .or [] (wordsOf s.data.toList i3));rw[z] at j;refine j.mono ?_;cases r2 with
      | err k =>
       rintro e D ⟨rfl,G⟩;have f:R = .err k:=by rw[QI.o,iJ];dsimp only[iI];rw[if_pos S.o];unfold dL;rw[if_pos P.o,<- Q.o.1];dsimp only;rw[z];rfl
       go_wp2_with fail;refine⟨rfl,?_⟩;rw[HG.o,f];exact⟨rfl,(Oj.o.trans oJ.o).trans G⟩
      | ok es2 l2 =>
       rintro e D ⟨y,i4,a2,rfl,rfl,rfl,hy,xX,G⟩;have HY:=qh hy;obtain⟨a5,ay,a1,aD,ac,ae,C⟩:=hy;rename_i O N K c4 aX;clear ac ae C;rw[show (az y O N K c4).toArray = (BC y O N K y.ar.length c4) from rfl];have F:=oJ.o.trans G;have ab:g<p.heap.size:=by have:=LU.o.b.lt;omega
       have PY:=qh (QG HO.o F ab);have Ib:=qh (Oj.o.trans F);have a0:=qh F;have Ic:=qh xX;have aM:p.heap.size<=D.heap.size:=b3 XZ.o F.size;obtain⟨i0,ap,an,X,ao⟩:=info_parts YO;have aL:a.length<=4001:=by have:=J7.o.1;omega
       go_wp2_with (at_builtin;refine wpList_append_lies _ rfl _ _ 52 rfl p.heap.size 67 i0 (.agg #[.int .i64 0,.int .i64 0,.string ⟨#[]⟩,.int .i64 0,.int .i64 0,.string ⟨#[]⟩,.slice none 0 0,.slice none 0 0]) 8 112 Tryz.underlying52 ap an X ao rfl (by decide) _ _ _ rfl (PY.o.alloc _) ⟨D.heap.size,0,none⟩ 1 1 [.int .i64 y.k,.int .i64 y.op,.string y.nm,.int .i64 y.v.k,.int .i64 y.v.n,.string y.v.s,.slice O y.v.l.length N,.slice K y.ar.length c4] rfl rfl ?d1 ?d2 (by decide) ?d3 ?d4 ?d5 _ rfl ?_)
       case d1=>exact b9 (ag.new D 67 _)
       case d2=>intro u hu;simp only[b4,b5,or_false] at hu;rcases hu with rfl | rfl | rfl | rfl | rfl | rfl | rfl | rfl <;> rfl
       case d3=>unfold maxLen;omega
       case d4=>omega
       case d5=>simp;omega
       intro g7 t w7 qO U Ac Ol;go_wp2_with fail;go_roundw
       case rel =>
        have T:∀ k,(b1 A a.length c).ownBlock=some k->p.heap.size<=k:=λ k d=>(PY.o.lt k d).1;have B:=U.size;have ad:w7.heap[g]?=D.heap[g]?:=(U.block g (by have:=Ic.o.b.lt;simp;omega) (λ e=>by have:=T g e.symm;omega)).trans (Below.heap_alloc D _ g Ic.o.b.lt);refine⟨a ++ [y],css ++ [az y O N K c4],some ⟨g7,0,none⟩,t,i4,by simp,?_,?_,?_,qh (Ic.o.kp ad),?_,?_,?_,?_⟩
        .have E:=HE.o.imp (q:=λ b=>(w.heap.size<=b/\some b≠(b1 A a.length c).ownBlock)/\some b≠some g7) (λ k d m=>⟨d,λ e=>by
          injection e with e;rcases Ac with h | h
          .exact d.2 (by rw[h,e])
          .have:=F.size
           try simp at h
           omega⟩)
         have h2:=(E.keep (w':=w7) ⟨by have:=F.size;simp at B;omega,λ k d m=>by
          have hz:=F.size;rw[U.block k (by simp;omega) d.1.2,Below.heap_alloc D _ k (by omega)];exact F.block k m (λ e=>by injection e with e;have:=d.1.1;omega)⟩).imp (q:=λ b=>w.heap.size<=b/\some b≠(b1 (some ⟨g7,0,none⟩) (a ++ [y]).length t).ownBlock) (λ k d _=>⟨d.1.1,d.2⟩)
         have W:∀ k,(b1 A a.length c).ownBlock=some k->k<wr.heap.size:=λ k d=>(HO.o.lt k d).2;have a9:=oJ.o.size;have X:=XZ.o;have h3:=HY.o.imp (q:=λ b=>b<D.heap.size/\(w.heap.size<=b/\some b≠(b1 (some ⟨g7,0,none⟩) (a ++ [y]).length t).ownBlock)/\some b≠(b1 A a.length c).ownBlock) (λ k d m=>⟨m,⟨by omega,λ e=>by
          have e':k=g7:=by injection e
          rcases Ac with h | h
          .have:=W g7 h;omega
          .try simp at h
           omega⟩,λ e=>by
          have:=W k e.symm;omega⟩)
         have h4:=((h3.keep (w':=w7) ⟨by simp at B;omega,λ k d m=>by
          rw[U.block k (by simp;omega) d.2.2,Below.heap_alloc D _ k m]⟩).up (B':=w7.heap.size) (by simp at B;omega)).imp (q:=λ b=>w.heap.size<=b/\some b≠(b1 (some ⟨g7,0,none⟩) (a ++ [y]).length t).ownBlock) (λ k d _=>d.2.1)
         exact qh (h2.snoc h4)
        .have e1:(a ++ [y]).length=a.length+1:=by simp
         have e2:(css ++ [az y O N K c4]).flatten=css.flatten ++ az y O N K c4:=by simp
         rw[e1,e2];exact qh qO
        .exact qh (by simp at B;omega)
        .exact qh ((Ib.o.alloc _).grown U (λ k d=>by
          have E:=T k d;omega))
        .have E:R=Pz s.data.toList.length (.qc o) (a ++ [y]) (wordsOf s.data.toList i4):=by rw[QI.o,iJ];dsimp only[iI];rw[if_pos S.o];unfold dL;rw[if_pos P.o,<- Q.o.1];dsimp only;rw[z];rfl
         exact qh E
        .have E:=wO z;have h2:=Q.o.2;have h3:=J7.o;exact qh ⟨by simp;omega,by omega⟩
        .exact qh (by simp)
       case measure =>
        have E:=J7.o.1;have h2:=Q.o.2;simp;omega
     .have Z:¬ ((a.length:Nat):Int)<((hi:Nat):Int):=by omega
      have aE:=qh (show ¬ a.length<(jL o).2 by rw[Ba.o.2];exact hh);clear m hh;have f:R = .ok a (wordsOf s.data.toList l):=by rw[QI.o,iJ];dsimp only[iI];rw[if_neg (λ h=>by rcases h with h | h;exact WE.o h;exact aE.o h.2)]
      have jI:=qh f;clear f;go_wp2_with (go_at_call 289;(with_reducible refine aa.o.mono ?_);rintro e w3 ⟨rfl,rfl⟩);go_ret;rw[HG.o,jI.o];exact⟨l,css,A,c,rfl,by rfl,HE.o.imp (λ k d _=>d.1),own_base HO.o (by omega),by have:=J7.o.1;omega,Vq.o,Oj.o⟩
theorem jU {s:ByteArray} {i:Nat} {t:Tok} (h:dG s.data.toList i=some t):aN s i=t.at_/\aK s i=t.tx/\fV s i=t.touch:=by unfold aN aK fV;rw[h];exact⟨rfl,rfl,rfl⟩
theorem uF (x:List UInt8) (w:World):CS 327 #[bO (tb x)] w (bL bN (gy x)):=by
 obtain⟨u,n⟩:=af (tb x);have t:=qh n;rw[n];clear n;go_enter Tryz.func327,Tryz.ntmps327;go_wp2_with fail;refine (yu w).mono ?_;rintro I W ⟨C,rfl,s,g⟩;have A:=qh s;clear s;go_wp2_with fail;go_loopw [7,3,4] (λ i _ _ E=>∃ k:Nat,k<=7/\i = bL bN k/\Hid (∀ j:Nat,0<j->j<k->kW (j:Nat)≠x)/\E=W) (λ i _ _ _=>7 - (intOf i).toNat)
 case atStart=>exact⟨0,b6 _,rfl,qh (λ j h r=>by omega),rfl⟩
 case round =>
  obtain⟨k,J,rfl,m,rfl⟩:=hrel;by_cases hlt:k<7
  .have b:k<wJ.length:=hlt;obtain⟨ad,c,B,a⟩:=A.o.2 (by decide);injection c with c;subst c;have f:(iZ wJ)[k]?=some (bO (tb (kW (k:Nat)))):=by
    unfold iZ;rw[List.getElem?_map,cc b];rw[Option.map_some,ab1 k b]
   have F:=a k _ f;obtain⟨v,d⟩:=af (tb (kW (k:Nat)));rw[d] at F;have l:=qh hlt;have y:(0:Int)<=(k:Nat):=by omega
   have D:(k:Int)<7:=by omega
   clear f a B;by_cases hp:0<k
   .have H:=qh hp;have q:(0:Int)<(k:Nat):=by omega
    by_cases he:kW (k:Nat)=x
    .have z:(v.toList == u.toList)=true:=kz (by rw[<- d,<- t.o,he]);have p:=qh (QN hp hlt he);clear he d hp;go_wp2_with fail;go_ret;exact⟨by rw[p.o];rfl,g⟩
    .have z:(v.toList == u.toList)=false:=dR (λ e=>he (J6 (by rw[d,t.o,e])));have G:=qh (show ∀ j:Nat,0<j->j<k+1->kW (j:Nat)≠x from λ j h r=>by
      by_cases hj:j=k
      .subst hj;exact he
      .exact m.o j h (by omega))
     clear he d hp;go_wp2_with fail;go_roundw
     case rel=>exact⟨k+1,l.o,by go_num,G,trivial⟩
     case measure =>
      have:=l.o;simp[intOf];omega
   .have q:¬ (0:Int)<(k:Nat):=by omega
    have o:=qh (show k=0 by omega);clear hp d;go_wp2_with fail;go_roundw
    case rel=>exact⟨k+1,l.o,by go_num,qh (λ j h r=>by have:=o.o;omega),trivial⟩
    case measure =>
     have:=l.o;simp[intOf];omega
  .have p:=qh (Vz (w:=x) (λ j h r=>m.o j h (by omega)));clear m;go_wp2_with fail;go_ret;exact⟨by rw[p.o];rfl,g⟩
theorem Af (x:List UInt8) (w:World):CS 328 #[bO (tb x)] w (bL bN (kZ x)):=by
 obtain⟨u,q⟩:=af (tb x);have A:=qh q;rw[q];clear q;go_enter Tryz.func328,Tryz.ntmps328;go_wp2_with fail;refine (NG w).mono ?_;rintro O W ⟨l,rfl,z,f⟩;have E:=qh z;have g:EG W W:=Below.refl _ _;clear z;go_wp2_with fail;go_loopw [7,4] (λ i _ K=>∃ k:Nat,k<=22/\i = bL bN k/\Hid (∀ d∈fC.take k,d.1.data.toList≠x)/\EG W K) (λ i _ _=>22 - (intOf i).toNat)
 case atStart=>exact⟨0,b6 _,rfl,qh (λ d h=>by simp at h),g⟩
 case round =>
  obtain⟨k,P,rfl,p,c⟩:=hrel;have v:=c.size;by_cases hlt:k<22
  .have b:k<fC.length:=hlt;obtain⟨ad,I,m,G,j,a⟩:=(dO E.o c).at_ b;injection m with m;subst m;obtain⟨d,o⟩:=af (fC[k]);have r:=qh (show fC.take (k+1)=fC.take k ++ [d] by rw[List.take_succ_eq_append_getElem b,o]);have s:=qh (show d.1.data.toList=x->kZ x=d.2 from λ h=>by rw[<- o];exact QM b p.o (by rw[o];exact h));rw[o] at j;have B:=qh hlt;obtain⟨n,t⟩:=d;have D:I = [bO n,bL bN t]:=j;subst D;have N:wr.cell? (l.add (k*2))=some (bO n):=a 0 _ rfl;have Q:wr.cell? ⟨(l.add (k*2)).block,(l.add (k*2)).off+1,none⟩=some (bL bN t):=a 1 _ rfl;have C:(0:Int)<=(k:Nat):=by omega
   have J:(k:Int)<22:=by omega
   clear j a o G b;by_cases ho:n.data.toList=x
   .have bo:(n.toList == u.toList)=true:=kz (by rw[<- A.o,<- ho,YK]);have H:=qh (s.o ho);clear ho;go_wp2_with fail;go_ret;exact⟨by rw[H.o];rfl,f.trans ((c.alloc v _).mono f.size)⟩
   .have bo:(n.toList == u.toList)=false:=dR (λ e=>ho (by rw[e,<- A.o,jB]));have M:=qh (show ∀ d∈fC.take (k+1),d.1.data.toList≠x by
     rw[r.o];intro y L;rcases List.mem_append.1 L with h | h
     .exact p.o y h
     .rw[List.mem_singleton] at h;rw[h];exact ho)
    clear ho;go_wp2_with fail;go_roundw
    case rel=>exact⟨k+1,B.o,by go_num,M,c.alloc v _⟩
    case measure =>
     have:=B.o;simp[intOf];omega
  .have F:=qh (show kZ x=0 from Vy (by have h:=p.o;rwa [List.take_of_length_le (show fC.length<=k by show 22<=k;omega)] at h));clear p;go_wp2_with fail;go_ret;exact⟨by rw[F.o];rfl,f.trans (c.mono f.size)⟩
def ab6 (w:World) (g:Nat) (s:ByteArray) (i:Nat) (e:Ending) (w':World):Prop:=match nameAt (wordsOf s.data.toList i) with
 | some x=>∃ i',e = bX (bO (tb x))/\wordsOf s.data.toList i'=(wordsOf s.data.toList i).tail/\aP w' g s i'/\Kp g w w'
 | none=>e=Jc (qf s.data.toList.length (wordsOf s.data.toList i))/\w=w'
theorem Ov (g:Nat) (s:ByteArray) (i:Nat) (w:World) (h:aP w g s i):Calls Tryz.prog 329 #[bS (some ⟨g,0,none⟩)] w λ e w'=>ab6 w g s i e w':=by
 have L:=qh h;have HW:=qh (gV g s i w h);have G:=qh (next_any g s i w h);have v:w.cell? ⟨g,2,none⟩=some (bO (tb (aK s i))):=h.b.cell 2;have J:w.cell? ⟨g,3,none⟩=some (bT (fV s i)):=h.b.cell 3;have y:=qh (mJ s i);unfold ab6;rw[y.o];cases ht:dG s.data.toList i with
 | none =>
  have m:=qp ht;have I:aK s i = []:=by unfold aK;rw[ht]
  rw[I] at v;rw[show nameAt (wordsOf s.data.toList i)=none by rw[m];rfl];change w.cell? ⟨g,2,none⟩=some (bO ⟨#[]⟩) at v;clear m I ht h L G;go_enter Tryz.func329,Tryz.ntmps329;go_wp2_with (go_at_call 256;(with_reducible refine HW.o.mono ?_);rintro e b ⟨rfl,rfl⟩);exact⟨rfl,rfl,rfl⟩
 | some t =>
  obtain⟨K,E,H⟩:=jU ht;obtain⟨S,a,A⟩:=sN ht;obtain⟨c0,p⟩:=af (s.data.toList.getD t.at_ 0);rw[p] at a;have m:wordsOf s.data.toList i=t :: wordsOf s.data.toList (t.at_+t.tx.length):=by rw[gZ,ht]
  rw[E] at v;rw[H] at J;have o:nameAt (wordsOf s.data.toList i)=if !t.touch && (pX c0 && !bH.contains t.tx) then some t.tx else none:=by
   have D:nameB t.tx=(pX c0 && !bH.contains t.tx):=by
    unfold nameB;congr 1;rw[a]
   rw[m,<- D];rfl
  rw[o];obtain⟨u,l⟩:=af (tb t.tx);have j:0<u.size:=by rw[<- l,kS,a];simp
  have q:u[0]=c0:=by
   subst l;have n:(tb t.tx).data.toList[0]?=some c0:=by rw[jB,a];rfl
   have x:(tb t.tx).data.toList[0]?=some (tb t.tx)[0]:=by
    rw[cc (by rw[aT];exact j)];rfl
   rw[x] at n;injection n
  have z:(u.toList == (⟨#[]⟩:ByteArray).toList)=false:=dR (λ e=>by rw[e] at j;exact absurd j (by decide));have N:u.toList.isEmpty=false:=by
   cases h:u.toList.isEmpty with
   | false=>rfl
   | true =>
    have n:u.toList = []:=List.isEmpty_iff.1 h;have x:(u.toList == (⟨#[]⟩:ByteArray).toList)=true:=by rw[n];simp
    rw[z] at x;cases x
  have r:=qh (show ∀ w',Calls Tryz.prog 55 #[.int .u8 (u[0].toNat:Nat)] w' λ e c=>e = bX (bT (pX c0))/\w'=c from λ w'=>by rw[q];exact oz c0 w');have C:=qh (show ∀ w',Calls Tryz.prog 56 #[bO u] w' λ e c=>e = bX (bT (bH.contains t.tx))/\w'=c from λ w'=>by
   have n:=mY u w'
   rwa [show u.data.toList=t.tx from by rw[<- l,jB]] at n)
  have Q:=qh l;have R:=qh (show wordsOf s.data.toList (aN s i+(aK s i).length)=(wordsOf s.data.toList i).tail by rw[K,E,m];rfl);rw[l] at v;obtain⟨O,k⟩:=af (t.touch);obtain⟨P,d⟩:=af (pX c0);obtain⟨M,f⟩:=af (bH.contains t.tx);rw[k] at J;rw[k,d,f];rw[d] at r;rw[f] at C;clear l q k d f o m a A p K E H ht h;cases O
  .cases P
   .go_enter Tryz.func329,Tryz.ntmps329;go_wp2_with (first | (go_at_call 256;(with_reducible refine HW.o.mono ?_);rintro e b ⟨rfl,rfl⟩) | (go_at_call 55;(with_reducible refine (r.o _).mono ?_);rintro e b ⟨rfl,rfl⟩));exact⟨rfl,rfl,rfl⟩
   .cases M
    .rw[if_pos (show (!false && (true && !false))=true from rfl)];go_enter Tryz.func329,Tryz.ntmps329;go_wp2_with (first | (go_at_call 254;(with_reducible refine G.o.mono ?_);rintro e b ⟨rfl,B,F⟩) | (go_at_call 55;(with_reducible refine (r.o _).mono ?_);rintro e b ⟨rfl,rfl⟩) | (go_at_call 56;(with_reducible refine (C.o _).mono ?_);rintro e b ⟨rfl,rfl⟩));go_ret;exact⟨aN s i+(aK s i).length,by rw[Q.o];rfl,R.o,B,F⟩
    .go_enter Tryz.func329,Tryz.ntmps329;go_wp2_with (first | (go_at_call 256;(with_reducible refine HW.o.mono ?_);rintro e b ⟨rfl,rfl⟩) | (go_at_call 55;(with_reducible refine (r.o _).mono ?_);rintro e b ⟨rfl,rfl⟩) | (go_at_call 56;(with_reducible refine (C.o _).mono ?_);rintro e b ⟨rfl,rfl⟩));exact⟨rfl,rfl,rfl⟩
  .go_enter Tryz.func329,Tryz.ntmps329;go_wp2_with (go_at_call 256;(with_reducible refine HW.o.mono ?_);rintro e b ⟨rfl,rfl⟩);exact⟨rfl,rfl,rfl⟩
end Go.Proofs.YtcnagconagpkcaaGreatDoor
