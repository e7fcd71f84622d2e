/- Lemmas. -/
import Derived.Test.YtcnagconagpkcaaGreatDoorZ12
import Derived.Test.YtcnagconagpkcaaGreatDoorZ9
open Go.Value renaming int->bN, string->bR, slice->bS, pointer->bX, bool->b0, slice->b4
open Go.IntKind renaming i64->bO
open Go.Ending renaming returned->b1
open Nat renaming le_refl->b3, le_trans->b5, zero_le->b9
open List renaming mem_cons->b6, not_mem_nil->b7, find?_eq_none->ca, mem_map->cc, mem_of_find?_eq_some->ce, getElem?_eq_getElem->cf
open Go.World renaming news_of_block->cb
set_option maxHeartbeats 4000000
set_option maxRecDepth 100000
namespace Go.Proofs.YtcnagconagpkcaaGreatDoor
open Tryz
open Tryz renaming prog->lM
open Go.RowKit Vtx
abbrev kR (w:World) (b:Nat) (v0 v1 v2 v3 v4 v5 v6 v7:Value):World:=((((((((w.setCell ⟨b,0,none⟩ v0).setCell ⟨b,1,none⟩ v1).setCell ⟨b,2,none⟩ v2).setCell ⟨b,3,none⟩ v3).setCell ⟨b,4,none⟩ v4).setCell ⟨b,5,none⟩ v5).setCell ⟨b,6,none⟩ v6).setCell ⟨b,7,none⟩ v7)
theorem zq {w:World} {b:Nat} {T:TypeId} {u0 u1 u2 u3 u4 u5 u6 u7:Value} (h:ah w b T #[u0,u1,u2,u3,u4,u5,u6,u7]) (v0 v1 v2 v3 a v5 v6 v7:Value):ah (kR w b v0 v1 v2 v3 a v5 v6 v7) b T #[v0,v1,v2,v3,a,v5,v6,v7]:=by
 have c:=(((((((h.bP 0 v0).bP 1 v1).bP 2 v2).bP 3 v3).bP 4 a).bP 5 v5).bP 6 v6).bP 7 v7;simpa using c
theorem jl (w:World) (b:Nat) (v0 v1 v2 v3 a v5 v6 v7:Value):(kR w b v0 v1 v2 v3 a v5 v6 v7).heap.size=w.heap.size:=by simp[World.setCell]
theorem eG (w:World) (b:Nat) (v0 v1 v2 v3 c v5 v6 v7:Value) (k:Nat) (a:k≠b):(kR w b v0 v1 v2 v3 c v5 v6 v7).heap[k]?=w.heap[k]?:=by
 have f:∀ (w':World) (i:Nat) (v:Value),(w'.setCell ⟨b,i,none⟩ v).heap[k]?=w'.heap[k]?:=λ w' i v=>Below.heap_setCell w' ⟨b,i,none⟩ v k a;simp only[kR,f]
theorem tX {g:Nat} {a w:World} (h:Kp g a w) {b:Nat} (j:a.heap.size<=b) (v0 v1 v2 v3 e v5 v6 v7:Value):Kp g a (kR w b v0 v1 v2 v3 e v5 v6 v7):=
 ⟨by
  have f:∀ (w':World) (i:Nat) (v:Value),(w'.setCell ⟨b,i,none⟩ v).os=w'.os:=λ _ _ _=>rfl;simp only[kR,f];exact h.os,by
  have f:∀ (w':World) (i:Nat) (v:Value),(w'.setCell ⟨b,i,none⟩ v).tape=w'.tape:=λ _ _ _=>rfl;simp only[kR,f];exact h.tape,by
  have f:∀ (w':World) (i:Nat) (v:Value),(w'.setCell ⟨b,i,none⟩ v).output=w'.output:=λ _ _ _=>rfl;simp only[kR,f];exact h.output,by rw[jl];exact h.size,λ k d c=>by rw[eG _ _ _ _ _ _ _ _ _ _ k (by omega)];exact h.block k d c⟩
theorem jL {s:ByteArray} {i:Nat} {word:List UInt8} (h:lG (wordsOf s.data.toList i) word=true):wordsOf s.data.toList (bD s i+(bH s i).length)=(wordsOf s.data.toList i).tail/\(wordsOf s.data.toList (bD s i+(bH s i).length)).length+1=(wordsOf s.data.toList i).length:=by
 unfold bD bH;rw[gy s.data.toList i] at h ⊢;cases ht:dE s.data.toList i with
 | none=>rw[ht] at h;cases h
 | some t=>exact⟨rfl,rfl⟩
theorem QU (o:Int) {l:List Ex} (h:2<=l.length):CG o l = [jF o l]:=by
 match l,h with
 | a :: b :: r,_=>rfl
theorem Kp.grown {g:Nat} {w w' w'':World} {a:Option Nat} (h:Kp g w w') (b:w'.grownBy w'' a) (f:∀ k,a=some k->w.heap.size<=k):Kp g w w'':=
 ⟨b.os.trans h.os,b.tape.trans h.tape,b.output.trans h.output,b5 h.size b.size,λ k c d=>(b.block k (Nat.lt_of_lt_of_le c h.size) (λ e=>by have:=f k e.symm;omega)).trans (h.block k c d)⟩
theorem CX (DL:FuncId) (Zc Q:NT) (o:Int) (word:List UInt8) (ay:word≠[]) (bv:∀ (a:Array Value) (W:World),(callFunc DL a).run lM W = .ok (.enter DL a) W) (n9:Nat) (hE:∀ H l,lG l word=false->Pz n9 Q H l = .ok (CG o H) l) (hN:∀ H l,lG l word=true->Pz n9 Q H l=(Pz n9 Zc [] l.tail).bind λ a9 Y=>Pz n9 Q (H ++ a9) Y) (g:Nat) (s:ByteArray) (i:Nat) (w:World) (a4:n9=s.data.toList.length) (h:bI w g s i) (hm:TM w g) (L:List Tok) (hL:wordsOf s.data.toList i=L) (hP:∀ L',L'.length<=L.length->fE DL Zc s L') :
  Calls lM 270 #[bX (some ⟨g,0,none⟩),bR (tb word),bN bO o,.func (.func DL) #[bX (some ⟨g,0,none⟩)] #[]] w λ e w'=>yw w g s ((Pz s.data.toList.length Zc [] L).bind λ H Y=>Pz s.data.toList.length Q H Y) e w':=by
 have Hq:=qh hP;have aq:=qh ay;subst a4;have ar:=qh hE;have an:=qh hN;clear ay hE hN;have bn:=h.b.lt;have H1:=qh (λ W hp hm=>hP L (b3 _) g i W hp hm hL);have HM:=qh hm;obtain⟨t,ht⟩:=af (tb word);rw[ht];obtain⟨r,hr⟩:=af (Pz s.data.toList.length Zc [] L);rw[hr] at H1 ⊢;have HR:=qh hr;have zk:=qh h;have HT:=qh ht;clear hr hP h ht hm;go_enter func270,ntmps270;go_wp2_with fail;obtain⟨W,hW,S,X,-,bp,-⟩:=mV g w;have ny:=qh (show bI W g s i by rw[hW];exact zk.o.alloc _);rw[<- hW];clear hW;refine (H1.o W ny.o (HM.o.kp S)).mono ?_;cases r with
 | err k =>
  rintro e K ⟨rfl,z⟩;go_wp2_with fail;exact⟨rfl,rfl,S.trans z⟩
 | ok H Y =>
  rintro e K ⟨x,D,cs,rfl,rfl,rfl,hx,a5,z⟩;have HX:=qh hx;obtain⟨bj,bk,bq,bA,a2,be,aZ⟩:=hx;rename_i A1 c1 A2 c2 br;clear a2 be aZ;have HP:=qh a5;have B1:ZB K w.heap.size:=by (try unfold ZB);unfold ah;rw[z.block _ X.lt (λ e=>by injection e with e;omega)];exact X
  clear X;obtain⟨b,hb⟩:=af (lG (wordsOf s.data.toList D) word);have HI:=qh (λ (W':World) (hp:bI W' g s D)=>vP g s D W' hp word aq.o);rw[hb,HT.o] at HI;have fJ:=qh hb;have aR:(aA x A1 c1 A2 c2).toArray = (Ag x A1 c1 A2 x.ar.length c2):=rfl;rw[aR];cases b
  .go_wp2_with fail;obtain⟨m,f⟩:=aG (K.alloc (.cells (Ag x A1 c1 A2 x.ar.length c2) 67 (0,0)));have DN:=qh (show Kp g w m by rw[f];exact (S.trans z).alloc _);have p:=qh (show aK (λ b=>W.heap.size<=b) K m by rw[f];exact aK.of ((Below.refl _ _).alloc (b3 _) _));have yO:=qh (show bI m g s D by rw[f];exact HP.o.alloc _);have X:ZB m w.heap.size:=by rw[f];exact B1.alloc _
   have BX:ah m K.heap.size 67 (Ag x A1 c1 A2 x.ar.length c2):=by rw[f];exact ah.new K _ _
   rw[<- f];clear f B1;obtain⟨fK,lD,gJ,lF,jC,rD,jD,rE,nJ,IV,nK,IW,nM,IX,nN,IY⟩:=ah.z8 X;obtain⟨aw,al,ap,av,aE,aL,ax,am⟩:=ah.c8 BX;go_wp2_with (go_at_call 289;(with_reducible refine (HI.o _ yO.o).mono ?_);rintro e w2 ⟨rfl,rfl⟩);refine bodyPost_ret (v:=.agg (Ag x A1 c1 A2 x.ar.length c2)) (by simp[results,results270,go_sem,fK,gJ,jC,jD,nJ,nK,nM,nN]) rfl ?_;have C:(uT.ok [x] (wordsOf s.data.toList D)).bind (λ H Y=>Pz s.data.toList.length Q H Y) = .ok [x] (wordsOf s.data.toList D):=ar.o _ _ hb;rw[C];refine⟨x,D,aA x A1 c1 A2 c2,rfl,rfl,rfl,?_,?_,tX DN.o (b3 _) _ _ _ _ _ _ _ _⟩
   .have M:aK (λ b=>W.heap.size<=b) K (kR m w.heap.size (bN bO x.k) (bN bO x.op) (bR x.nm) (bN bO x.v.k) (bN bO x.v.n) (bR x.v.s) (bS A1 x.v.l.length c1) (bS A2 x.ar.length c2)):=
     ⟨by rw[jl];exact p.o.1,λ k j J=>by rw[eG _ _ _ _ _ _ _ _ _ _ k (by omega)];exact p.o.2 k j J⟩
    exact ((HX.o.keep M).up M.1).imp (λ k j _=>by omega)
   .exact yO.o.kp (eG _ _ _ _ _ _ _ _ _ _ g (by omega))
  .go_wp2_with fail;obtain⟨m,f⟩:=aG (K.alloc (.cells (Ag x A1 c1 A2 x.ar.length c2) 67 (0,0)));have DN:=qh (show Kp g w m by rw[f];exact (S.trans z).alloc _);have p:=qh (show aK (λ b=>W.heap.size<=b) K m by rw[f];exact aK.of ((Below.refl _ _).alloc (b3 _) _));have yO:=qh (show bI m g s D by rw[f];exact HP.o.alloc _);have X:ZB m w.heap.size:=by rw[f];exact B1.alloc _
   have BX:ah m K.heap.size 67 (Ag x A1 c1 A2 x.ar.length c2):=by rw[f];exact ah.new K _ _
   rw[<- f];clear f B1;obtain⟨aw,al,ap,av,aE,aL,ax,am⟩:=ah.c8 BX;go_wp2_with (go_at_call 289;(with_reducible refine (HI.o _ yO.o).mono ?_);rintro e w2 ⟨rfl,rfl⟩);obtain⟨Z,B⟩:=aG (m.alloc (.cells (Ag x A1 c1 A2 x.ar.length c2) 67 (0,0)));have ng:=qh (show Kp g w Z by rw[B];exact DN.o.alloc _);have aM:=qh (show bI Z g s D by rw[B];exact yO.o.alloc _);have a7:=qh (show ZB Z w.heap.size by rw[B];exact X.alloc _);have Jv:=qh (show Z.ownsRow m.heap.size 67 8 (bS (some ⟨m.heap.size,0,none⟩) 1 1) 1 (aA x A1 c1 A2 c2) by rw[B];exact DX (ah.new m _ _) (b3 _) rfl);have PV:=qh (show bY Z (λ b=>W.heap.size<=b/\b≠m.heap.size) Z.heap.size x (aA x A1 c1 A2 c2) by
    have F:=(HX.o.keep p.o).imp (q:=λ b=>W.heap.size<=b/\b≠m.heap.size) (λ k j J=>⟨j,by have:=p.o.1;omega⟩);rw[B];exact (F.keep (aK.of ((Below.refl _ _).alloc (b3 _) _))).up (by have:=p.o.1;simp;omega))
   have bg:Z.heap.size=m.heap.size+1:=by rw[B];simp
   rw[<- B];clear B X BX aw al ap av aE aL ax am;obtain⟨R,hR⟩:=af (Pz s.data.toList.length Q [x] (wordsOf s.data.toList D));have a6:=qh hR.symm;have Om:((uT.ok [x] (wordsOf s.data.toList D)).bind λ H Y=>Pz s.data.toList.length Q H Y)=R:=hR;have HG:=qh Om;clear Om hR;go_loopw [10] (λ v wr=>∃ (d:List Ex) (css:List (List Value)) (A:Option Addr) (c E:Nat),v = bS A d.length c/\Hid (iO wr (λ b=>W.heap.size<=b/\some b≠(b4 A d.length c).ownBlock) d css)/\Hid (wr.ownsRow m.heap.size 67 8 (bS A d.length c) d.length css.flatten)/\Hid (m.heap.size<=wr.heap.size)/\Hid (bI wr g s E)/\Hid (Kp g w wr)/\Hid (ZB wr w.heap.size)/\Hid (R=Pz s.data.toList.length Q d (wordsOf s.data.toList E))/\Hid (d.length+(wordsOf s.data.toList E).length<=4001/\(wordsOf s.data.toList E).length<=L.length)/\Hid (1<=d.length/\(d.length=1->lG (wordsOf s.data.toList E) word=true))) (λ v _=>4001 - (match v with
    | bS _ n _=>n
    | _=>0))
   case atStart =>
    refine⟨[x],[aA x A1 c1 A2 c2],some ⟨m.heap.size,0,none⟩,1,D,rfl,?_,?_,?_,aM,ng,a7,a6,?_,qh ⟨b3 _,λ _=>fJ.o⟩⟩
    .exact qh (iO.one (PV.o.imp (λ k j _=>⟨j.1,λ e=>j.2 (by injection e)⟩)))
    .exact qh (by simpa using Jv.o)
    .exact qh (by omega)
    .have F:=vN HR.o;have h2:=wG s.data.toList (s.data.toList.length+1) D;rw[aN] at h2;have h3:(wordsOf s.data.toList D).length<=4000:=by have:=HP.o.s;unfold wordsOf;rw[aN];omega
     exact qh ⟨by simp;omega,F⟩
   case round =>
    obtain⟨d,css,A,c,E,rfl,HE,HO,LU,VK,Oo,JL,TC,J4,ab⟩:=hrel;obtain⟨b2,ac⟩:=af (lG (wordsOf s.data.toList E) word);have ag:=qh (vP g s E wr VK.o word aq.o);rw[ac,HT.o] at ag;have Zd:=qh ac;clear ac;cases b2
    .go_wp2_with (go_at_call 289;(with_reducible refine ag.o.mono ?_);rintro e w3 ⟨rfl,rfl⟩);refine (gG o A d.length c wr).mono ?_;rintro e w3 ⟨rfl,I⟩;have B3:=JL.o.below I JL.o.lt;obtain⟨fK,lD,gJ,lF,jC,rD,jD,rE,nJ,IV,nK,IW,nM,IX,nN,IY⟩:=ah.z8 B3;go_wp2_with fail;refine bodyPost_ret (v:=.agg #[bN bO 4,bN bO o,bR ⟨#[]⟩,bN bO 0,bN bO 0,bR ⟨#[]⟩,bS none 0 0,bS A d.length c]) (by simp[results,results270,go_sem,fK,gJ,jC,jD,nJ,nK,nM,nN]) rfl ?_;have bo:d.length≠1:=λ e=>by have:=ab.o.2 e;rw[Zd.o] at this;cases this
     have C:R = .ok [jF o d] (wordsOf s.data.toList E):=by rw[TC.o,ar.o _ _ Zd.o,QU o (by have:=ab.o.1;omega)]
     rw[HG.o,C];have a1:W.heap.size<=m.heap.size:=b5 z.size p.o.1;have M:aK (λ b=>W.heap.size<=b) wr (kR w3 w.heap.size (bN bO 4) (bN bO o) (bR ⟨#[]⟩) (bN bO 0) (bN bO 0) (bR ⟨#[]⟩) (bS none 0 0) (bS A d.length c)):=
      ⟨by rw[jl];exact I.size,λ k j J=>by rw[eG _ _ _ _ _ _ _ _ _ _ k (by omega)];exact I.block k J⟩
     have a0:d.length<=maxLen:=by have:=J4.o.1;unfold maxLen;omega
     refine⟨jF o d,E,_,rfl,rfl,rfl,?_,?_,tX (Oo.o.trans (Kp.of I)) (b3 _) _ _ _ _ _ _ _ _⟩
     .exact (((acV o (HE.o.imp (λ k j _=>j.1)) a1 HO.o a0).keep M).up M.1).imp (λ k j _=>by omega)
     .exact (VK.o.below I).kp (eG _ _ _ _ _ _ _ _ _ _ g (by omega))
    .have HN:=qh (next_any g s E wr VK.o);have aa:=jL Zd.o;obtain⟨i3,P⟩:=af (bD s E+(bH s E).length);rw[P] at HN aa;have tY:=qh aa;clear P aa;go_wp2_with (first | (go_at_call 289;(with_reducible refine ag.o.mono ?_);rintro e w3 ⟨rfl,rfl⟩) | (go_at_call 254;(with_reducible refine HN.o.mono ?_);rintro e w4 ⟨rfl,tZ,aD⟩;have Dw:=qh tZ;have pK:=qh aD;clear tZ aD));have N:=Hq.o (wordsOf s.data.toList i3) (by have:=tY.o.2;have:=J4.o.2;omega) g i3 _ Dw.o (HM.o.kp (Oo.o.trans pK.o)) rfl;obtain⟨r2,T⟩:=af (Pz s.data.toList.length Zc [] (wordsOf s.data.toList i3));rw[T] at N;refine N.mono ?_;cases r2 with
     | err k =>
      rintro e G ⟨rfl,ae⟩;have C:R = .err k:=by rw[TC.o,an.o _ _ Zd.o,<- tY.o.1,T];rfl
      go_wp2_with fail;refine⟨rfl,?_⟩;rw[HG.o,C];exact⟨rfl,(Oo.o.trans pK.o).trans ae⟩
     | ok es2 l2 =>
      rintro e G ⟨y,i4,bE,rfl,rfl,rfl,hy,DY,ae⟩;have HY:=qh hy;obtain⟨bi,bm,bx,bt,bd,bb,P⟩:=hy;rename_i A3 c3 A4 c4 bl;clear bd bb P;have ba:(aA y A3 c3 A4 c4).toArray = (Ag y A3 c3 A4 y.ar.length c4):=rfl;rw[ba];have O:=pK.o.trans ae;have bf:g<m.heap.size:=yO.o.b.lt;have EO:=qh (QT HO.o O bf);have vS:=qh (Oo.o.trans O);have bB:=qh O;have CY:=qh DY;have bs:m.heap.size<=G.heap.size:=by have:=EO.o.2;exact b5 LU.o O.size
      obtain⟨i0,a8,bc,ao,aV⟩:=info_parts Zb;have bw:d.length<=4001:=by have:=J4.o.1;omega
      go_wp2_with (at_builtin;refine wpList_append_lies _ rfl _ _ 52 rfl m.heap.size 67 i0 (.agg #[.int .i64 0,.int .i64 0,.string ⟨#[]⟩,.int .i64 0,.int .i64 0,.string ⟨#[]⟩,.slice none 0 0,.slice none 0 0]) 8 112 underlying52 a8 bc ao aV rfl (by decide) _ _ _ rfl (EO.o.alloc _) ⟨G.heap.size,0,none⟩ 1 1 [.int .i64 y.k,.int .i64 y.op,.string y.nm,.int .i64 y.v.k,.int .i64 y.v.n,.string y.v.s,.slice A3 y.v.l.length c3,.slice A4 y.ar.length c4] rfl rfl ?d1 ?d2 (by decide) ?d3 ?d4 ?d5 _ rfl ?_)
      case d1=>exact cb (ah.new G 67 _)
      case d2=>intro u hu;simp only[b6,b7,or_false] at hu;rcases hu with rfl | rfl | rfl | rfl | rfl | rfl | rfl | rfl <;> rfl
      case d3=>unfold maxLen;omega
      case d4=>omega
      case d5=>simp;omega
      intro g7 U w7 qC vC zt Oq;have bL:Kp g G (G.alloc (.cells (Ag y A3 c3 A4 y.ar.length c4) 67 (0,0))):=(zo g G).alloc _;go_wp2_with fail;go_roundw
      case rel =>
       have ad:∀ k,(b4 A d.length c).ownBlock=some k->m.heap.size<=k:=λ k j=>(EO.o.lt k j).1;have V:=vC.size;have a3:w7.heap[g]?=G.heap[g]?:=(vC.block g (by have:=CY.o.b.lt;simp;omega) (λ e=>by have:=ad g e.symm;omega)).trans (Below.heap_alloc G _ g CY.o.b.lt);refine⟨d ++ [y],css ++ [aA y A3 c3 A4 c4],some ⟨g7,0,none⟩,U,i4,by simp,?_,?_,?_,qh (CY.o.kp a3),?_,?_,?_,?_,?_⟩
       .have F:=HE.o.imp (q:=λ b=>(W.heap.size<=b/\some b≠(b4 A d.length c).ownBlock)/\some b≠some g7) (λ k j J=>⟨j,λ e=>by
         injection e with e;rcases zt with h | h
         .exact j.2 (by rw[h,e])
         .have:=O.size
          try simp at h
          omega⟩)
        have h2:=(F.keep (w':=w7) ⟨by have:=O.size;simp at V;omega,λ k j J=>by
         have hz:=O.size;rw[vC.block k (by simp;omega) j.1.2,Below.heap_alloc G _ k (by omega)];exact O.block k J (λ e=>by injection e with e;have:=ny.o.b.lt;have:=j.1.1;omega)⟩).imp (q:=λ b=>W.heap.size<=b/\some b≠(b4 (some ⟨g7,0,none⟩) (d ++ [y]).length U).ownBlock) (λ k j _=>⟨j.1.1,j.2⟩)
        have ak:∀ k,(b4 A d.length c).ownBlock=some k->k<wr.heap.size:=λ k j=>(HO.o.lt k j).2;have bh:=pK.o.size;have bz:W.heap.size<=m.heap.size:=b5 z.size p.o.1;have ao:=LU.o;have h3:=HY.o.imp (q:=λ b=>b<G.heap.size/\(W.heap.size<=b/\some b≠(b4 (some ⟨g7,0,none⟩) (d ++ [y]).length U).ownBlock)/\some b≠(b4 A d.length c).ownBlock) (λ k j J=>⟨J,⟨by omega,λ e=>by
         have e':k=g7:=by injection e
         rcases zt with h | h
         .have:=ak g7 h;omega
         .try simp at h
          omega⟩,λ e=>by
         have:=ak k e.symm;omega⟩)
        have h4:=((h3.keep (w':=w7) ⟨by simp at V;omega,λ k j J=>by
         rw[vC.block k (by simp;omega) j.2.2,Below.heap_alloc G _ k J]⟩).up (B':=w7.heap.size) (by simp at V;omega)).imp (q:=λ b=>W.heap.size<=b/\some b≠(b4 (some ⟨g7,0,none⟩) (d ++ [y]).length U).ownBlock) (λ k j _=>j.2.1)
        exact qh (h2.snoc h4)
       .have e1:(d ++ [y]).length=d.length+1:=by simp
        have e2:(css ++ [aA y A3 c3 A4 c4]).flatten=css.flatten ++ aA y A3 c3 A4 c4:=by simp
        rw[e1,e2];exact qh qC
       .exact qh (by simp at V;omega)
       .exact qh ((vS.o.alloc _).grown vC (λ k j=>by
         have F:=ad k j;have h2:=p.o.1;have h3:=z.size;omega))
       .have h2:=p.o.1;have h3:=z.size;have h4:=JL.o.lt;have h5:=O.size;have h6:ZB w7 w.heap.size:=by
         (try unfold ZB);unfold ah
         rw[vC.block _ (by simp;omega) (λ e=>by have:=ad _ e.symm;omega),Below.heap_alloc G _ _ (by omega),O.block _ h4 (λ e=>by injection e with e;omega)];exact JL.o
        exact qh h6
       .have F:R=Pz s.data.toList.length Q (d ++ [y]) (wordsOf s.data.toList i4):=by rw[TC.o,an.o _ _ Zd.o,<- tY.o.1,T];rfl
        exact qh F
       .have F:=vN T;have h2:=tY.o.2;have h3:=J4.o;exact qh ⟨by simp;omega,by omega⟩
       .have F:=ab.o.1;exact qh ⟨by simp,λ e=>by simp at e;rw[e] at F;exact absurd F (by decide)⟩
      case measure =>
       have F:=J4.o.1;have h2:=tY.o.2;simp;omega
theorem Ot (g:Nat) (s:ByteArray) (i:Nat) (w:World) (h:bI w g s i) (f:TM w g) (L:List Tok) (j:wordsOf s.data.toList i=L) (d:∀ L',L'.length<=L.length->fE 271 .and s L') :
  Calls lM 270 #[bX (some ⟨g,0,none⟩),bR (tb orW),bN bO 3,.func (.func 271) #[bX (some ⟨g,0,none⟩)] #[]] w λ e w'=>yw w g s ((Pz s.data.toList.length .and [] L).bind λ b c=>Pz s.data.toList.length .UJ b c) e w':=
 CX 271 .and .UJ 3 orW (by decide) (λ a W=>by simp[callFunc,go_sem,func271,Tryz.f271]) s.data.toList.length (λ b l h=>acK h) (λ b l h=>by
  rw[gY];dsimp only[iC];rw[if_pos h]) g s i w rfl h f L j d
theorem Ou (g:Nat) (s:ByteArray) (i:Nat) (w:World) (h:bI w g s i) (f:TM w g) (L:List Tok) (j:wordsOf s.data.toList i=L) (d:∀ L',L'.length<=L.length->fE 291 .not s L') :
  Calls lM 270 #[bX (some ⟨g,0,none⟩),bR (tb XV),bN bO 2,.func (.func 291) #[bX (some ⟨g,0,none⟩)] #[]] w λ e w'=>yw w g s ((Pz s.data.toList.length .not [] L).bind λ b c=>Pz s.data.toList.length .AV b c) e w':=
 CX 291 .not .AV 2 XV (by decide) (λ a W=>by simp[callFunc,go_sem,func291,f291]) s.data.toList.length (λ b l h=>YR h) (λ b l h=>by
  rw[gY];dsimp only[iC];rw[if_pos h]) g s i w rfl h f L j d
def qO (l:List Tok) (sg:List (ByteArray × Int)):Int:=sg.foldl (λ o d=>if lG l d.1.data.toList then d.2 else o) 0
theorem VL (l:List Tok) (a:List (ByteArray × Int)) (d:ByteArray × Int):qO l (a ++ [d])=if lG l d.1.data.toList then d.2 else qO l a:=by simp[qO,List.foldl_append]
def TD (b:Bool) (x w:List UInt8):Bool:=!b && decide (x=w)
def Ov (b:Bool) (x:List UInt8) (a c:Int):Int:=if TD b x [] then 0 else match ([4,5,6,7,8,9,10,11,15,16,17,18,19]:List Int).find? (λ o=>decide (a<=o) && decide (o<=c) && decide (dH o≠[]) && TD b x (dH o)) with
 | some o=>o
 | none=>0
def QV (b:Bool) (x:List UInt8) (sg:List (ByteArray × Int)):Int:=sg.foldl (λ o d=>if TD b x d.1.data.toList then d.2 else o) 0
theorem zu (a c:Int) (t:Tok) (r:List Tok):fU a c (t :: r)=Ov t.touch t.tx a c:=rfl
theorem Ox (t:Tok) (r:List Tok) (sg:List (ByteArray × Int)):qO (t :: r) sg=QV t.touch t.tx sg:=rfl
theorem FO (x:List UInt8) (a c:Int):Ov true x a c=0:=by
 unfold Ov;rw[if_neg (by simp[TD]),ca.2 (λ o _=>by simp[TD])]
theorem Ze (b:Bool) (x:List UInt8):QV b x iL=Ov b x 15 16:=by
 cases b
 .by_cases h1:x = [43]
  .subst h1;decide
  .by_cases h2:x = [45]
   .subst h2;decide
   .simp[QV,Ov,TD,iL,dH,h1,h2]
 .rw[FO];simp[QV,TD,iL]
theorem Zf (b:Bool) (x:List UInt8):QV b x iM=Ov b x 17 19:=by
 cases b
 .by_cases h1:x = [42]
  .subst h1;decide
  .by_cases h2:x = [47]
   .subst h2;decide
   .by_cases h3:x = [109,111,100]
    .subst h3;decide
    .simp[QV,Ov,TD,iM,dH,h1,h2,h3]
 .rw[FO];simp[QV,TD,iM]
theorem VM (l:List Tok):qO l iL=fU 15 16 l:=by
 cases l with
 | nil=>rfl
 | cons t r=>rw[Ox,zu,Ze]
theorem VN (l:List Tok):qO l iM=fU 17 19 l:=by
 cases l with
 | nil=>rfl
 | cons t r=>rw[Ox,zu,Zf]
theorem QW {l:List Tok} {k:Nat} (g:k<eU.length) (e:∀ d∈eU.take k,lG l d.1.data.toList=false) (a:lG l eU[k].1.data.toList=true):fU 4 11 l=eU[k].2:=by
 cases l with
 | nil=>cases a
 | cons t r =>
  rw[zu];have a:TD t.touch t.tx eU[k].1.data.toList=true:=a;unfold TD at a;rw[Bool.and_eq_true,decide_eq_true_iff] at a;obtain⟨b,c⟩:=a;have h:k<8:=g;have f:t.touch=false:=by simpa using b
  clear e b;rw[f,c];clear f c a;obtain rfl | rfl | rfl | rfl | rfl | rfl | rfl | rfl:k=0\/k=1\/k=2\/k=3\/k=4\/k=5\/k=6\/k=7:=by omega
  all_goals decide +revert
theorem VO {l:List Tok} (a:∀ d∈eU,lG l d.1.data.toList=false):fU 4 11 l=0:=by
 cases l with
 | nil=>rfl
 | cons t r =>
  rw[zu];have a:∀ d∈eU,TD t.touch t.tx d.1.data.toList=false:=a;obtain⟨b,m⟩:=af (t.touch);obtain⟨x,f⟩:=af (t.tx);rw[m,f] at a ⊢;cases b
  .simp only[eU,List.forall_mem_cons,TD,Bool.not_false,Bool.true_and,decide_eq_false_iff_not] at a;obtain⟨k,h,n,i,j,e,c,g,-⟩:=a;simp[Ov,TD,dH,k,h,n,i,j,e,c,g]
  .exact FO _ _ _
theorem VP (w:World):Calls lM 279 #[] w λ e w'=>e = b1 (bS (some ⟨w.heap.size,0,none⟩) iL.length iL.length)/\ah w' w.heap.size 359 (lY iL).toArray/\DD w w':=by
 go_enter func279,ntmps279;go_wp2_with fail;go_ret;have e:(lY iL).toArray = #[bR ⟨#[43]⟩,bN bO 15,bR ⟨#[45]⟩,bN bO 16]:=by kernel_rfl
 exact⟨rfl,by rw[e];exact ah.new w 359 #[bR ⟨#[43]⟩,bN bO 15,bR ⟨#[45]⟩,bN bO 16],(Below.refl _ w).alloc (b3 _) _⟩
theorem VQ (w:World):Calls lM 280 #[] w λ e w'=>e = b1 (bS (some ⟨w.heap.size,0,none⟩) iM.length iM.length)/\ah w' w.heap.size 359 (lY iM).toArray/\DD w w':=by
 go_enter func280,ntmps280;go_wp2_with fail;go_ret;have e:(lY iM).toArray = #[bR ⟨#[42]⟩,bN bO 17,bR ⟨#[47]⟩,bN bO 18,bR ⟨#[109,111,100]⟩,bN bO 19]:=by kernel_rfl
 exact⟨rfl,by rw[e];exact ah.new w 359 #[bR ⟨#[42]⟩,bN bO 17,bR ⟨#[47]⟩,bN bO 18,bR ⟨#[109,111,100]⟩,bN bO 19],(Below.refl _ w).alloc (b3 _) _⟩
theorem FP:uS=dZ.map (λ d=>(d.2,d.1.data.toList)):=by decide
theorem QX {w:List UInt8} {k:Nat} (e:k<dZ.length) (a:∀ d∈dZ.take k,d.1.data.toList≠w) (f:dZ[k].1.data.toList=w):kL w=dZ[k].2:=by
 unfold kL;have h:uS.find? (λ p=>decide (p.2=w))=some (dZ[k].2,dZ[k].1.data.toList):=by
  rw[FP,List.find?_eq_some_iff_append];refine⟨by simpa using f,(dZ.take k).map (λ d=>(d.2,d.1.data.toList)),(dZ.drop (k+1)).map (λ d=>(d.2,d.1.data.toList)),?_,?_⟩
  .rw[show ((dZ[k].2,dZ[k].1.data.toList) :: (dZ.drop (k+1)).map (λ d=>(d.2,d.1.data.toList)))=(dZ[k] :: dZ.drop (k+1)).map (λ d=>(d.2,d.1.data.toList)) from rfl,<- List.drop_eq_getElem_cons e,<- List.map_append,List.take_append_drop]
  .intro x b;obtain⟨d,c,rfl⟩:=cc.1 b;simpa using a d c
 rw[h]
theorem VR {w:List UInt8} (a:∀ d∈dZ,d.1.data.toList≠w):kL w=0:=by
 unfold kL;rw[ca.2 (λ p b=>by rw[FP] at b;obtain⟨d,c,rfl⟩:=cc.1 b;simpa using a d c)]
theorem VS {s:List UInt8} {i:Nat} {t:Tok} (h:dE s i=some t) {w:List UInt8} (e:t.tx=40 :: w):t.tx = [40]:=by
 obtain⟨-,b,-,-,-,a,-⟩:=iV h;rw[drop_cons b] at a;obtain⟨c,j⟩:=af (s.getD t.at_ 0);obtain⟨r,k⟩:=af (s.drop (t.at_+1));rw[j,k,e] at a;have l:=CE c r;obtain⟨m,g⟩:∃ m,dh (c :: r)=m+1:=⟨dh (c :: r) - 1,by omega⟩;rw[g,List.take_succ_cons] at a;injection a with h1 h2;subst h1;have n:dh (40 :: r)=1:=by
  rw[dh,if_neg (by decide),if_neg (by decide),if_neg (by decide),if_neg (by decide),if_neg (by decide),if_neg (by decide)];cases r with
  | nil=>rfl
  | cons d r=>show (if Qk 40 d then 2 else 1)=1;rw[if_neg (by simp[Qk])]
 have f:m=0:=by omega
 rw[e,h2,f];rfl
theorem BH {s:List UInt8} {x:Val} (h:df x=0) (a:showT x.k x.n x.s.data.toList x.l=s):uB s=some x:=by
 rw[<- a];exact QM h
theorem QY {w:List UInt8} {k:Nat} (c:0<k) (b:k<7) (a:jV (k:Nat)=w):gz w=(k:Nat):=by
 subst a;obtain rfl | rfl | rfl | rfl | rfl | rfl:k=1\/k=2\/k=3\/k=4\/k=5\/k=6:=by omega
 all_goals decide
theorem VT {w:List UInt8} (h:∀ k:Nat,0<k->k<7->jV (k:Nat)≠w):gz w=0:=by
 have f:=h 1 (by omega) (by omega);have c:=h 2 (by omega) (by omega);have g:=h 3 (by omega) (by omega);have d:=h 4 (by omega) (by omega);have e:=h 5 (by omega) (by omega);have b:=h 6 (by omega) (by omega);unfold gz;rw[ca.2 (λ o a=>?_)];simp only[b6,b7,or_false] at a;rw[decide_eq_true_iff];rcases a with rfl | rfl | rfl | rfl | rfl | rfl
 .exact f
 .exact c
 .exact g
 .exact d
 .exact e
 .exact b
theorem acW (k:Nat) (h:k<vI.length):vI[k]=tb (jV (k:Nat)):=by
 have a:k<7:=h;obtain rfl | rfl | rfl | rfl | rfl | rfl | rfl:k=0\/k=1\/k=2\/k=3\/k=4\/k=5\/k=6:=by omega
 all_goals rfl
theorem Zg (w:List UInt8):0<=gz w:=by
 unfold gz;split
 .rename_i o a;have:=ce a;simp only[b6,b7,or_false] at this;omega
 .exact Int.le_refl _
theorem afx (w:List UInt8):0<=kL w/\kL w<=39/\(kL w≠0->12<=kL w):=by
 unfold kL;split
 .rename_i o a;have c:=ce a;have b:(uS.all λ p=>decide (12<=p.1/\p.1<=39))=true:=by decide
  have d:=List.all_eq_true.1 b o c;rw[decide_eq_true_iff] at d;omega
 .exact⟨Int.le_refl _,by decide,λ h=>absurd rfl h⟩
attribute [local go_sem ↓] Go.wp_at_zero Go.wp_at_succ
theorem uf {w a:World} {g i:Nat} {s:ByteArray} {x:Ex} {A A':Option Addr} {c c':Nat} {L:Nat} (f:bY a (λ b=>L<=b) a.heap.size x (aA x A c A' c')) (l:w.heap.size<L) (j:g<w.heap.size) (h:bI a g s i) (e:Kp g w a) :
  yw w g s (.ok [x] (wordsOf s.data.toList i)) (b1 (.agg (Ag x A c A' x.ar.length c'))) (kR a w.heap.size (bN bO x.k) (bN bO x.op) (bR x.nm) (bN bO x.v.k) (bN bO x.v.n) (bR x.v.s) (bS A x.v.l.length c) (bS A' x.ar.length c')):=by
 have d:aK (λ b=>L<=b) a (kR a w.heap.size (bN bO x.k) (bN bO x.op) (bR x.nm) (bN bO x.v.k) (bN bO x.v.n) (bR x.v.s) (bS A x.v.l.length c) (bS A' x.ar.length c')):=
  ⟨by rw[jl];exact b3 _,λ k e m=>by rw[eG _ _ _ _ _ _ _ _ _ _ k (by omega)]⟩
 exact⟨x,i,aA x A c A' c',rfl,rfl,rfl,((f.keep d).up d.1).imp (λ k e _=>by omega),h.kp (eG _ _ _ _ _ _ _ _ _ _ g (by omega)),tX e (b3 _) _ _ _ _ _ _ _ _⟩
theorem addr_add (b o n:Nat):(⟨b,o,none⟩:Addr).add n=⟨b,o+n,none⟩:=by unfold Addr.add;split <;> simp_all
theorem Zh {w:World} {g i j:Nat} {s:ByteArray} (h:bI w g s i) (m:bI w g s j):wordsOf s.data.toList i=wordsOf s.data.toList j:=by
 have e:=h.b.symm.trans m.b;have n:(#[bR s,bN bO (bD s i:Nat),bR (tb (bH s i)),b0 (fD s i)]:Array Value) = #[bR s,bN bO (bD s j:Nat),bR (tb (bH s j)),b0 (fD s j)]:=by
  injection e with e;injection e
 have l:=congrArg Array.toList n;simp only[List.cons.injEq,Value.int.injEq,Value.string.injEq,Value.bool.injEq,true_and,and_true] at l;obtain⟨f,d,e3⟩:=l;have f:bD s i=bD s j:=by omega
 have d:=J3 d;unfold bD at f;unfold bH at d;unfold fD at e3;rw[gy s.data.toList i,gy s.data.toList j];cases hi:dE s.data.toList i with
 | none =>
  cases hj:dE s.data.toList j with
  | none=>rfl
  | some u =>
   rw[hi,hj] at d;have k:=(iV hj).2.2.1;have d : []=u.tx:=d;rw[<- d] at k;exact absurd k (by simp)
 | some t =>
  cases hj:dE s.data.toList j with
  | none =>
   rw[hi,hj] at d;have k:=(iV hi).2.2.1;have d:t.tx = []:=d;rw[d] at k;exact absurd k (by simp)
  | some u =>
   rw[hi,hj] at f d e3;obtain⟨a,b,c⟩:=t;obtain⟨a',o,c'⟩:=u;simp only at f d e3;subst f d e3;rfl
open Classical in
noncomputable def afy (w:World) (g:Nat) (s:ByteArray):Nat:=if h:∃ i,bI w g s i then (wordsOf s.data.toList h.choose).length else 0
theorem Zi {w:World} {g i:Nat} {s:ByteArray} (h:bI w g s i):afy w g s=(wordsOf s.data.toList i).length:=by
 have a:∃ i,bI w g s i:=⟨i,h⟩;unfold afy;rw[dif_pos a,Zh a.choose_spec h]
theorem qE {s:ByteArray} {i:Nat} (h:wordsOf s.data.toList i≠[]):wordsOf s.data.toList (bD s i+(bH s i).length)=(wordsOf s.data.toList i).tail/\(wordsOf s.data.toList (bD s i+(bH s i).length)).length+1=(wordsOf s.data.toList i).length:=by
 unfold bD bH;rw[gy s.data.toList i] at h ⊢;cases ht:dE s.data.toList i with
 | none=>rw[ht] at h;exact absurd rfl h
 | some t=>exact⟨rfl,rfl⟩
theorem FQ {a b:Int} {l:List Tok} (h:fU a b l≠0):l≠[]:=by
 rintro rfl;exact h (by unfold fU;rw[if_neg (by simp[lG]),ca.2 (λ o _=>by simp[lG])])
theorem acX {w:World} {b B:Nat} {e:TypeId} {cs ds:List Value} (h:ah w b e (cs ++ ds).toArray) (d:B<=b) (a:cs.length=8) (c:ds.length=8):w.ownsRow B e 8 (bS (some ⟨b,0,none⟩) 2 2) 2 (cs ++ ds):=
 ⟨by simp[a,c],.inr ⟨b,2,(cs ++ ds).toArray,rfl,d,h,b3 _,by unfold maxLen;omega,by simp[a,c],by rw[show 2*8=(cs ++ ds).length by simp[a,c]];exact List.take_length⟩⟩
theorem iO.two {w:World} {p:Nat->Prop} {e f:Ex} {cs ds:List Value} (a:bY w p w.heap.size e cs) (b:bY w p w.heap.size f ds):iO w p [e,f] [cs,ds]:=(iO.one a).snoc b
theorem FT {w:World} {p:Nat->Prop} {B:Nat} {a:List Ex} {css:List (List Value)} {A:Option Addr} {c:Nat} (o:Int) (h:iO w p a css) (r:∀ k,B<=k->p k) (g:w.ownsRow B 67 8 (bS A a.length c) a.length css.flatten) (q:a.length<=maxLen) :
  bY w p w.heap.size (jF o a) (aA (jF o a) none 0 A c):=by
 have m:∀ ad,A=some ad->p ad.block:=λ ad e=>by
  subst e;rcases g.2 with ⟨s,-⟩ | ⟨t,l,j,d,n,-⟩
  .cases s
  .injection d with d _ _;injection d with d;subst d;exact r _ n
 refine bY.mk (e:=jF o a) (A:=none) (c:=0) (A':=A) (c':=c) (cs:=css.flatten) (show 0<=maxLen from b9 _) (show 0<=maxLen from b9 _) (show 0<=maxLen from b9 _) q ⟨Reads.none_,λ _ ad e=>by cases e⟩ ⟨Reads.fB g,λ _=>m⟩ (λ i f=>?_);have b:i<css.length:=by rw[<- h.len];exact f
 rw[TA css h.cells i b];exact h.ex i f b
theorem Zj {q:Nat->Prop} {a w6:World} {y e:Ex} {A A' A3 A4:Option Addr} {c c' c3 c4:Nat} (o:Int) (h:bY a q a.heap.size y (aA y A c A' c')) (g:bY a q a.heap.size e (aA e A3 c3 A4 c4))
  (f:Below (a.alloc (.cells (aA y A c A' c' ++ aA e A3 c3 A4 c4).toArray 67 (0,0))).heap.size (a.alloc (.cells (aA y A c A' c' ++ aA e A3 c3 A4 c4).toArray 67 (0,0))) w6) (i:∀ k,a.heap.size<=k->q k) :
  bY w6 q w6.heap.size (jF o [y,e]) (aA (jF o [y,e]) none 0 (some ⟨a.heap.size,0,none⟩) 2):=by
 have b:aK q a (a.alloc (.cells (aA y A c A' c' ++ aA e A3 c3 A4 c4).toArray 67 (0,0))):=aK.of ((Below.refl _ _).alloc (b3 _) _);have d:aK q _ w6:=aK.of f;have j:ah w6 a.heap.size 67 (aA y A c A' c' ++ aA e A3 c3 A4 c4).toArray:=(ah.new a _ _).below f (ah.new a _ _).lt;exact FT (B:=a.heap.size) o (iO.two (((h.keep b).keep d).up (b5 b.1 d.1)) (((g.keep b).keep d).up (b5 b.1 d.1))) i (by simpa using acX j (b3 _) (vT h) (vT g)) (show 2<=maxLen by decide)
theorem QZ {q:Nat->Prop} {a w6:World} {y:Ex} {A A':Option Addr} {c c':Nat} (o:Int) (f:bY a q a.heap.size y (aA y A c A' c'))
  (d:Below (a.alloc (.cells (aA y A c A' c').toArray 67 (0,0))).heap.size (a.alloc (.cells (aA y A c A' c').toArray 67 (0,0))) w6) (h:∀ k,a.heap.size<=k->q k) :
  bY w6 q w6.heap.size (jF o [y]) (aA (jF o [y]) none 0 (some ⟨a.heap.size,0,none⟩) 1):=by
 have e:aK q a (a.alloc (.cells (aA y A c A' c').toArray 67 (0,0))):=aK.of ((Below.refl _ _).alloc (b3 _) _);have b:aK q _ w6:=aK.of d;have g:ah w6 a.heap.size 67 (aA y A c A' c').toArray:=(ah.new a _ _).below d (ah.new a _ _).lt;exact FT (B:=a.heap.size) o (iO.one (((f.keep e).keep b).up (b5 e.1 b.1))) h (by simpa using DX g (b3 _) (vT f)) (show 1<=maxLen by decide)
theorem DZ {w:World} {q:Nat->Prop} {x:Ex} {cs:List Value} {b:Nat} (h:bY w q w.heap.size x cs) (c:∀ k,q k->k≠b) (v0 v1 v2 v3 a v5 v6 v7:Value):bY (kR w b v0 v1 v2 v3 a v5 v6 v7) q (kR w b v0 v1 v2 v3 a v5 v6 v7).heap.size x cs:=
 (h.keep ⟨by rw[jl];exact b3 _,λ k d _=>eG _ _ _ _ _ _ _ _ _ _ k (c k d)⟩).up (by rw[jl];exact b3 _)
theorem bY.kpq {w w':World} {q:Nat->Prop} {g:Nat} {x:Ex} {cs:List Value} (h:bY w q w.heap.size x cs) (a:Kp g w w') (b:∀ k,q k->k≠g):bY w' q w'.heap.size x cs:=(h.keep (a.stay b)).up a.size
theorem ah.kp {w w':World} {g b:Nat} {T:TypeId} {a:Array Value} (h:ah w b T a) (c:Kp g w w') (f:b≠g):ah w' b T a:=by
 have d:=c.block b h.lt (λ e=>f (by injection e))
 (try unfold ZB);unfold ah
 rw[d];exact h
theorem TM.below {w w':World} {g:Nat} (h:TM w g) (a:DD w w'):TM w' g:=h.kp (Kp.of a)
theorem acZ (s:ByteArray) (L:List Tok) (h:∀ L',L'.length<=L.length->fE 271 .and s L'):fE 255 .or s L:=by
 intro g i w t E V;have f:=qh (λ W (p:bI W g s i) (z:TM W g)=>Ot g s i W p z L V h);rw[show tb orW=⟨#[111,114]⟩ from rfl,show ((Pz s.data.toList.length .and [] L).bind λ D C=>Pz s.data.toList.length .UJ D C)=Pz s.data.toList.length .or [] L from by rw[gY _ .or];rfl] at f;have T:=qh t;have I:=qh E;have o:=t.b.lt;obtain⟨r,G⟩:=af (Pz s.data.toList.length .or [] L);rw[G] at f ⊢;clear t E G;go_enter func255,ntmps255;go_wp2_with fail;obtain⟨W,y,b,m,-,u,-⟩:=mV g w;have Y:=qh (show bI W g s i by rw[y];exact T.o.alloc _);rw[<- y];clear y;refine (f.o W Y.o (I.o.kp b)).mono ?_;cases r with
 | err k =>
  rintro e B ⟨rfl,a⟩;go_wp2_with fail;exact⟨rfl,rfl,b.trans a⟩
 | ok D C =>
  rintro e B ⟨x,i1,Z,rfl,rfl,rfl,d,j,a⟩;have M:=qh d;obtain⟨q,l,A,n,K,X,c⟩:=d;rename_i A1 c1 A2 c2 P;clear K X c q l A n;have F:(aA x A1 c1 A2 c2).toArray = (Ag x A1 c1 A2 x.ar.length c2):=rfl;rw[F];clear F;have B1:ZB B w.heap.size:=by (try unfold ZB);unfold ah;rw[a.block _ m.lt (λ e=>by injection e with e;omega)];exact m
  clear m;obtain⟨Q,lD,S,lF,U,rD,H,rE,O,IV,R,IW,N,IX,J,IY⟩:=ah.z8 B1;go_wp2_with fail;refine bodyPost_ret (v:=.agg (Ag x A1 c1 A2 x.ar.length c2)) (by simp[results,results255,go_sem,Q,S,U,H,O,R,N,J]) rfl ?_;exact uf M.o u o j (b.trans a)
theorem Zk (s:ByteArray) (L:List Tok) (h:∀ L',L'.length<=L.length->fE 291 .not s L'):fE 271 .and s L:=by
 intro g i w t E V;have f:=qh (λ W (p:bI W g s i) (z:TM W g)=>Ou g s i W p z L V h);rw[show tb XV=⟨#[97,110,100]⟩ from rfl,show ((Pz s.data.toList.length .not [] L).bind λ D C=>Pz s.data.toList.length .AV D C)=Pz s.data.toList.length .and [] L from by rw[gY _ .and];rfl] at f;have T:=qh t;have I:=qh E;have o:=t.b.lt;obtain⟨r,G⟩:=af (Pz s.data.toList.length .and [] L);rw[G] at f ⊢;clear t E G;go_enter func271,ntmps271;go_wp2_with fail;obtain⟨W,y,b,m,-,u,-⟩:=mV g w;have Y:=qh (show bI W g s i by rw[y];exact T.o.alloc _);rw[<- y];clear y;refine (f.o W Y.o (I.o.kp b)).mono ?_;cases r with
 | err k =>
  rintro e B ⟨rfl,a⟩;go_wp2_with fail;exact⟨rfl,rfl,b.trans a⟩
 | ok D C =>
  rintro e B ⟨x,i1,Z,rfl,rfl,rfl,d,j,a⟩;have M:=qh d;obtain⟨q,l,A,n,K,X,c⟩:=d;rename_i A1 c1 A2 c2 P;clear K X c q l A n;have F:(aA x A1 c1 A2 c2).toArray = (Ag x A1 c1 A2 x.ar.length c2):=rfl;rw[F];clear F;have B1:ZB B w.heap.size:=by (try unfold ZB);unfold ah;rw[a.block _ m.lt (λ e=>by injection e with e;omega)];exact m
  clear m;obtain⟨Q,lD,S,lF,U,rD,H,rE,O,IV,R,IW,N,IX,J,IY⟩:=ah.z8 B1;go_wp2_with fail;refine bodyPost_ret (v:=.agg (Ag x A1 c1 A2 x.ar.length c2)) (by simp[results,results271,go_sem,Q,S,U,H,O,R,N,J]) rfl ?_;exact uf M.o u o j (b.trans a)
def am1 (w:World) (g:Nat) (s:ByteArray) (r:uT) (e:Ending) (w':World):Prop:=match r with
 | .ok es l'=>∃ i css A c,l'=wordsOf s.data.toList i/\e = b1 (bS A es.length c)/\iO w' (λ b=>w.heap.size<=b) es css/\w'.ownsRow w.heap.size 67 8 (bS A es.length c) es.length css.flatten/\es.length<=4001/\bI w' g s i/\Kp g w w'
 | .err k=>e=IU k/\Kp g w w'
theorem H9 (g:Nat) (s:ByteArray) (i:Nat) (w:World) (h:bI w g s i) (hm:TM w g) (o:Int) (L:List Tok) (hL:wordsOf s.data.toList i=L) (hP:∀ L',L'.length<=L.length->fE 255 .or s L') :
  Calls lM 330 #[bX (some ⟨g,0,none⟩),bN bO o] w λ e w'=>am1 w g s (Pz s.data.toList.length (.args o) [] L) e w':=by
 have bc:=h.b.lt;have V:Pz s.data.toList.length (.args o) [] L=(Pz s.data.toList.length .or [] L).bind λ es l1=>Pz s.data.toList.length (.oW o) es l1:=by rw[gY];rfl
 rw[V];have H1:=qh (hP L (b3 _) g i w h hm hL);have HM:=qh hm;obtain⟨r,hr⟩:=af (Pz s.data.toList.length .or [] L);rw[hr] at H1 ⊢;have HR:=qh hr;have zk:=qh h;obtain⟨lo,am⟩:=af ((jm o).1);obtain⟨hi,N⟩:=af ((jm o).2);have yM:=qh (And.intro am N);have aq:arV o = .tuple #[bN bO (lo:Nat),bN bO (hi:Nat)]:=by unfold arV;rw[am,N]
 have aR:=qh (λ w'=>aq▸Ii o w');clear hr h hm V am N aq;go_enter func330,ntmps330;go_wp2_with (go_at_call 293;(with_reducible refine (aR.o _).mono ?_);rintro e w3 ⟨rfl,rfl⟩);refine H1.o.mono ?_;cases r with
 | err k =>
  rintro e z ⟨rfl,J⟩;go_wp2_with fail;exact⟨rfl,rfl,J⟩
 | ok es l1 =>
  rintro e z ⟨x,i1,be,rfl,rfl,rfl,ap,ar,J⟩;have Ar:=qh ap;obtain⟨aD,aE,aV,a6,Q3,Q7,av⟩:=ap;rename_i A1 c1 A2 c2 bd;clear Q3 Q7 av aD aE aV a6;have FU:(aA x A1 c1 A2 c2).toArray = (Ag x A1 c1 A2 x.ar.length c2):=rfl;rw[FU];clear FU;have yO:=qh ar;have bf:=qh J;have bg:=J.size;clear ar;go_wp2_with fail;obtain⟨W2,G⟩:=aG (z.alloc (.cells (Ag x A1 c1 A2 x.ar.length c2) 67 (0,0)));have ng:=qh (show Kp g w W2 by rw[G];exact J.alloc _);have aw:=qh (show bI W2 g s i1 by rw[G];exact yO.o.alloc _);have Jv:=qh (show W2.ownsRow z.heap.size 67 8 (bS (some ⟨z.heap.size,0,none⟩) 1 1) 1 (aA x A1 c1 A2 c2) by rw[G];exact DX (ah.new z _ _) (b3 _) rfl);have PV:=qh (show bY W2 (λ b=>w.heap.size<=b/\b≠z.heap.size) W2.heap.size x (aA x A1 c1 A2 c2) by
   have F:=Ar.o.imp (q:=λ b=>w.heap.size<=b/\b≠z.heap.size) (λ k d m=>⟨d,by omega⟩);rw[G];exact (F.keep (aK.of ((Below.refl _ _).alloc (b3 _) _))).up (by simp))
  have ba:W2.heap.size=z.heap.size+1:=by rw[G];simp
  rw[<- G];clear G J;obtain⟨R,hR⟩:=af (Pz s.data.toList.length (.oW o) [x] (wordsOf s.data.toList i1));have a1:=qh hR.symm;have Om:((uT.ok [x] (wordsOf s.data.toList i1)).bind λ es l1=>Pz s.data.toList.length (.oW o) es l1)=R:=hR;have HG:=qh Om;clear Om hR;go_loopw [7] (λ v wr=>∃ (a:List Ex) (css:List (List Value)) (A:Option Addr) (c l:Nat),v = bS A a.length c/\Hid (iO wr (λ b=>w.heap.size<=b/\some b≠(b4 A a.length c).ownBlock) a css)/\Hid (wr.ownsRow z.heap.size 67 8 (bS A a.length c) a.length css.flatten)/\Hid (z.heap.size<=wr.heap.size)/\Hid (bI wr g s l)/\Hid (Kp g w wr)/\Hid (R=Pz s.data.toList.length (.oW o) a (wordsOf s.data.toList l))/\Hid (a.length+(wordsOf s.data.toList l).length<=4001/\(wordsOf s.data.toList l).length<=L.length)/\Hid (1<=a.length)) (λ v _=>4001 - (match v with
   | bS _ n _=>n
   | _=>0))
  case atStart =>
   refine⟨[x],[aA x A1 c1 A2 c2],some ⟨z.heap.size,0,none⟩,1,i1,rfl,?_,?_,?_,aw,ng,a1,?_,qh (b3 _)⟩
   .exact qh (iO.one (PV.o.imp (λ k d _=>⟨d.1,λ e=>d.2 (by injection e)⟩)))
   .exact qh (by simpa using Jv.o)
   .exact qh (by omega)
   .have F:=vN HR.o;have h2:=wG s.data.toList (s.data.toList.length+1) i1;rw[aN] at h2;have h3:(wordsOf s.data.toList i1).length<=4000:=by have:=yO.o.s;unfold wordsOf;rw[aN];omega
    exact qh ⟨by simp;omega,F⟩
  case round =>
   obtain⟨a,css,A,c,l,rfl,HE,HO,LU,VK,Z,TC,X,bb⟩:=hrel;obtain⟨b2,ad⟩:=af (lG (wordsOf s.data.toList l) [44]);have aa:=qh (vP g s l wr VK.o [44] (by decide));rw[ad,show tb [44]=⟨#[44]⟩ from rfl] at aa;have M:=qh ad;clear ad;by_cases m:a.length<lo
   .have a2:((a.length:Nat):Int)<((lo:Nat):Int):=by omega
    have MV:=qh (show a.length<(jm o).1 by rw[yM.o.1];exact m);cases b2
    .have K:=qh (take_any g s l wr VK.o [44] (by decide));rw[M.o,show tb [44]=⟨#[44]⟩ from rfl] at K;have a9:=qh (show Calls lM 323 #[bX (some ⟨g,0,none⟩),bR ⟨#[44]⟩] wr λ e w'=>e=IU (bD s l)/\wr=w' from K.o.mono (λ e w' h=>by rw[if_neg (by decide)] at h;exact h));have f:R = .err (bD s l):=by rw[TC.o,gY];dsimp only[iC];rw[if_pos (.inl MV.o)];unfold dG;rw[if_neg (by rw[M.o];decide),kY]
     have qP:=qh f;clear f K;go_wp2_with (go_at_call 323;(with_reducible refine a9.o.mono ?_);rintro e w4 ⟨rfl,rfl⟩);refine⟨rfl,?_⟩;rw[HG.o,qP.o];exact⟨rfl,Z.o⟩
    .clear m;have K:=qh (take_any g s l wr VK.o [44] (by decide));rw[show tb [44]=⟨#[44]⟩ from rfl] at K;have H:=jL M.o;obtain⟨i3,p⟩:=af (bD s l+(bH s l).length);rw[p] at K H;have ac:=qh (show Calls lM 323 #[bX (some ⟨g,0,none⟩),bR ⟨#[44]⟩] wr λ e w'=>e = b1 (.tuple #[])/\bI w' g s i3/\Kp g wr w' from K.o.mono (λ e w' h=>by rw[M.o,if_pos rfl] at h;exact h));have Q:=qh H;have O:=qh (show a.length<(jm o).1\/(lG (wordsOf s.data.toList l) [44]=true/\a.length<(jm o).2) from .inl MV.o);clear p H K;go_wp2_with (first | (go_at_call 323;(with_reducible refine ac.o.mono ?_);rintro e w4 ⟨rfl,tZ,W⟩;have Dw:=qh tZ;have Y:=qh W;clear tZ W));have j:=hP (wordsOf s.data.toList i3) (by have:=Q.o.2;have:=X.o.2;omega) g i3 _ Dw.o (HM.o.kp (Z.o.trans Y.o)) rfl;obtain⟨r2,B⟩:=af (Pz s.data.toList.length .or [] (wordsOf s.data.toList i3));rw[B] at j;refine j.mono ?_;cases r2 with
     | err k =>
      rintro e t ⟨rfl,I⟩;have f:R = .err k:=by rw[TC.o,gY];dsimp only[iC];rw[if_pos O.o];unfold dG;rw[if_pos M.o,<- Q.o.1];dsimp only;rw[B];rfl
      go_wp2_with fail;refine⟨rfl,?_⟩;rw[HG.o,f];exact⟨rfl,(Z.o.trans Y.o).trans I⟩
     | ok es2 l2 =>
      rintro e t ⟨y,i4,a8,rfl,rfl,rfl,hy,DY,I⟩;have HY:=qh hy;obtain⟨ay,aM,a5,a0,an,ak,p⟩:=hy;rename_i A3 c3 A4 c4 aL;clear an ak p;rw[show (aA y A3 c3 A4 c4).toArray = (Ag y A3 c3 A4 y.ar.length c4) from rfl];have E:=Y.o.trans I;have ao:g<z.heap.size:=by have:=yO.o.b.lt;omega
      have EO:=qh (QT HO.o E ao);have vS:=qh (Z.o.trans E);have a7:=qh E;have CY:=qh DY;have aZ:z.heap.size<=t.heap.size:=b5 LU.o E.size;obtain⟨i0,ag,al,S,ab⟩:=info_parts Zb;have a4:a.length<=4001:=by have:=X.o.1;omega
      go_wp2_with (at_builtin;refine wpList_append_lies _ rfl _ _ 52 rfl z.heap.size 67 i0 (.agg #[.int .i64 0,.int .i64 0,.string ⟨#[]⟩,.int .i64 0,.int .i64 0,.string ⟨#[]⟩,.slice none 0 0,.slice none 0 0]) 8 112 underlying52 ag al S ab rfl (by decide) _ _ _ rfl (EO.o.alloc _) ⟨t.heap.size,0,none⟩ 1 1 [.int .i64 y.k,.int .i64 y.op,.string y.nm,.int .i64 y.v.k,.int .i64 y.v.n,.string y.v.s,.slice A3 y.v.l.length c3,.slice A4 y.ar.length c4] rfl rfl ?d1 ?d2 (by decide) ?d3 ?d4 ?d5 _ rfl ?_)
      case d1=>exact cb (ah.new t 67 _)
      case d2=>intro u hu;simp only[b6,b7,or_false] at hu;rcases hu with rfl | rfl | rfl | rfl | rfl | rfl | rfl | rfl <;> rfl
      case d3=>unfold maxLen;omega
      case d4=>omega
      case d5=>simp;omega
      intro g7 C w7 qC T zt Oq;go_wp2_with fail;go_roundw
      case rel =>
       have U:∀ k,(b4 A a.length c).ownBlock=some k->z.heap.size<=k:=λ k d=>(EO.o.lt k d).1;have D:=T.size;have ae:w7.heap[g]?=t.heap[g]?:=(T.block g (by have:=CY.o.b.lt;simp;omega) (λ e=>by have:=U g e.symm;omega)).trans (Below.heap_alloc t _ g CY.o.b.lt);refine⟨a ++ [y],css ++ [aA y A3 c3 A4 c4],some ⟨g7,0,none⟩,C,i4,by simp,?_,?_,?_,qh (CY.o.kp ae),?_,?_,?_,?_⟩
       .have F:=HE.o.imp (q:=λ b=>(w.heap.size<=b/\some b≠(b4 A a.length c).ownBlock)/\some b≠some g7) (λ k d m=>⟨d,λ e=>by
         injection e with e;rcases zt with h | h
         .exact d.2 (by rw[h,e])
         .have:=E.size
          try simp at h
          omega⟩)
        have h2:=(F.keep (w':=w7) ⟨by have:=E.size;simp at D;omega,λ k d m=>by
         have hz:=E.size;rw[T.block k (by simp;omega) d.1.2,Below.heap_alloc t _ k (by omega)];exact E.block k m (λ e=>by injection e with e;have:=d.1.1;omega)⟩).imp (q:=λ b=>w.heap.size<=b/\some b≠(b4 (some ⟨g7,0,none⟩) (a ++ [y]).length C).ownBlock) (λ k d _=>⟨d.1.1,d.2⟩)
        have P:∀ k,(b4 A a.length c).ownBlock=some k->k<wr.heap.size:=λ k d=>(HO.o.lt k d).2;have ax:=Y.o.size;have S:=LU.o;have h3:=HY.o.imp (q:=λ b=>b<t.heap.size/\(w.heap.size<=b/\some b≠(b4 (some ⟨g7,0,none⟩) (a ++ [y]).length C).ownBlock)/\some b≠(b4 A a.length c).ownBlock) (λ k d m=>⟨m,⟨by omega,λ e=>by
         have e':k=g7:=by injection e
         rcases zt with h | h
         .have:=P g7 h;omega
         .try simp at h
          omega⟩,λ e=>by
         have:=P k e.symm;omega⟩)
        have h4:=((h3.keep (w':=w7) ⟨by simp at D;omega,λ k d m=>by
         rw[T.block k (by simp;omega) d.2.2,Below.heap_alloc t _ k m]⟩).up (B':=w7.heap.size) (by simp at D;omega)).imp (q:=λ b=>w.heap.size<=b/\some b≠(b4 (some ⟨g7,0,none⟩) (a ++ [y]).length C).ownBlock) (λ k d _=>d.2.1)
        exact qh (h2.snoc h4)
       .have e1:(a ++ [y]).length=a.length+1:=by simp
        have e2:(css ++ [aA y A3 c3 A4 c4]).flatten=css.flatten ++ aA y A3 c3 A4 c4:=by simp
        rw[e1,e2];exact qh qC
       .exact qh (by simp at D;omega)
       .exact qh ((vS.o.alloc _).grown T (λ k d=>by
         have F:=U k d;omega))
       .have F:R=Pz s.data.toList.length (.oW o) (a ++ [y]) (wordsOf s.data.toList i4):=by rw[TC.o,gY];dsimp only[iC];rw[if_pos O.o];unfold dG;rw[if_pos M.o,<- Q.o.1];dsimp only;rw[B];rfl
        exact qh F
       .have F:=vN B;have h2:=Q.o.2;have h3:=X.o;exact qh ⟨by simp;omega,by omega⟩
       .exact qh (by simp)
      case measure =>
       have F:=X.o.1;have h2:=Q.o.2;simp;omega
   .have a2:¬ ((a.length:Nat):Int)<((lo:Nat):Int):=by omega
    have SY:=qh (show ¬ a.length<(jm o).1 by rw[yM.o.1];exact m);cases b2
    .clear m;have f:R = .ok a (wordsOf s.data.toList l):=by rw[TC.o,gY];dsimp only[iC];rw[if_neg (λ h=>by rcases h with h | h;exact SY.o h;exact absurd (h.1.symm.trans M.o) (by decide))]
     have qP:=qh f;clear f;go_wp2_with (go_at_call 289;(with_reducible refine aa.o.mono ?_);rintro e w3 ⟨rfl,rfl⟩);go_ret;rw[HG.o,qP.o];exact⟨l,css,A,c,rfl,by rfl,HE.o.imp (λ k d _=>d.1),own_base HO.o (by omega),by have:=X.o.1;omega,VK.o,Z.o⟩
    .by_cases hh:a.length<hi
     .have N:((a.length:Nat):Int)<((hi:Nat):Int):=by omega
      have Zl:=qh (show a.length<(jm o).2 by rw[yM.o.2];exact hh);clear m hh;have K:=qh (take_any g s l wr VK.o [44] (by decide));rw[show tb [44]=⟨#[44]⟩ from rfl] at K;have H:=jL M.o;obtain⟨i3,p⟩:=af (bD s l+(bH s l).length);rw[p] at K H;have ac:=qh (show Calls lM 323 #[bX (some ⟨g,0,none⟩),bR ⟨#[44]⟩] wr λ e w'=>e = b1 (.tuple #[])/\bI w' g s i3/\Kp g wr w' from K.o.mono (λ e w' h=>by rw[M.o,if_pos rfl] at h;exact h));have Q:=qh H;have O:=qh (show a.length<(jm o).1\/(lG (wordsOf s.data.toList l) [44]=true/\a.length<(jm o).2) from .inr ⟨M.o,Zl.o⟩);clear p H K;go_wp2_with (first | (go_at_call 323;(with_reducible refine ac.o.mono ?_);rintro e w4 ⟨rfl,tZ,W⟩;have Dw:=qh tZ;have Y:=qh W;clear tZ W) | (go_at_call 289;(with_reducible refine aa.o.mono ?_);rintro e w3 ⟨rfl,rfl⟩));have j:=hP (wordsOf s.data.toList i3) (by have:=Q.o.2;have:=X.o.2;omega) g i3 _ Dw.o (HM.o.kp (Z.o.trans Y.o)) rfl;obtain⟨r2,B⟩:=af (Pz s.data.toList.length .or [] (wordsOf s.data.toList i3));rw[B] at j;refine j.mono ?_;cases r2 with
      | err k =>
       rintro e t ⟨rfl,I⟩;have f:R = .err k:=by rw[TC.o,gY];dsimp only[iC];rw[if_pos O.o];unfold dG;rw[if_pos M.o,<- Q.o.1];dsimp only;rw[B];rfl
       go_wp2_with fail;refine⟨rfl,?_⟩;rw[HG.o,f];exact⟨rfl,(Z.o.trans Y.o).trans I⟩
      | ok es2 l2 =>
       rintro e t ⟨y,i4,a8,rfl,rfl,rfl,hy,DY,I⟩;have HY:=qh hy;obtain⟨ay,aM,a5,a0,an,ak,p⟩:=hy;rename_i A3 c3 A4 c4 aL;clear an ak p;rw[show (aA y A3 c3 A4 c4).toArray = (Ag y A3 c3 A4 y.ar.length c4) from rfl];have E:=Y.o.trans I;have ao:g<z.heap.size:=by have:=yO.o.b.lt;omega
       have EO:=qh (QT HO.o E ao);have vS:=qh (Z.o.trans E);have a7:=qh E;have CY:=qh DY;have aZ:z.heap.size<=t.heap.size:=b5 LU.o E.size;obtain⟨i0,ag,al,S,ab⟩:=info_parts Zb;have a4:a.length<=4001:=by have:=X.o.1;omega
       go_wp2_with (at_builtin;refine wpList_append_lies _ rfl _ _ 52 rfl z.heap.size 67 i0 (.agg #[.int .i64 0,.int .i64 0,.string ⟨#[]⟩,.int .i64 0,.int .i64 0,.string ⟨#[]⟩,.slice none 0 0,.slice none 0 0]) 8 112 underlying52 ag al S ab rfl (by decide) _ _ _ rfl (EO.o.alloc _) ⟨t.heap.size,0,none⟩ 1 1 [.int .i64 y.k,.int .i64 y.op,.string y.nm,.int .i64 y.v.k,.int .i64 y.v.n,.string y.v.s,.slice A3 y.v.l.length c3,.slice A4 y.ar.length c4] rfl rfl ?d1 ?d2 (by decide) ?d3 ?d4 ?d5 _ rfl ?_)
       case d1=>exact cb (ah.new t 67 _)
       case d2=>intro u hu;simp only[b6,b7,or_false] at hu;rcases hu with rfl | rfl | rfl | rfl | rfl | rfl | rfl | rfl <;> rfl
       case d3=>unfold maxLen;omega
       case d4=>omega
       case d5=>simp;omega
       intro g7 C w7 qC T zt Oq;go_wp2_with fail;go_roundw
       case rel =>
        have U:∀ k,(b4 A a.length c).ownBlock=some k->z.heap.size<=k:=λ k d=>(EO.o.lt k d).1;have D:=T.size;have ae:w7.heap[g]?=t.heap[g]?:=(T.block g (by have:=CY.o.b.lt;simp;omega) (λ e=>by have:=U g e.symm;omega)).trans (Below.heap_alloc t _ g CY.o.b.lt);refine⟨a ++ [y],css ++ [aA y A3 c3 A4 c4],some ⟨g7,0,none⟩,C,i4,by simp,?_,?_,?_,qh (CY.o.kp ae),?_,?_,?_,?_⟩
        .have F:=HE.o.imp (q:=λ b=>(w.heap.size<=b/\some b≠(b4 A a.length c).ownBlock)/\some b≠some g7) (λ k d m=>⟨d,λ e=>by
          injection e with e;rcases zt with h | h
          .exact d.2 (by rw[h,e])
          .have:=E.size
           try simp at h
           omega⟩)
         have h2:=(F.keep (w':=w7) ⟨by have:=E.size;simp at D;omega,λ k d m=>by
          have hz:=E.size;rw[T.block k (by simp;omega) d.1.2,Below.heap_alloc t _ k (by omega)];exact E.block k m (λ e=>by injection e with e;have:=d.1.1;omega)⟩).imp (q:=λ b=>w.heap.size<=b/\some b≠(b4 (some ⟨g7,0,none⟩) (a ++ [y]).length C).ownBlock) (λ k d _=>⟨d.1.1,d.2⟩)
         have P:∀ k,(b4 A a.length c).ownBlock=some k->k<wr.heap.size:=λ k d=>(HO.o.lt k d).2;have ax:=Y.o.size;have S:=LU.o;have h3:=HY.o.imp (q:=λ b=>b<t.heap.size/\(w.heap.size<=b/\some b≠(b4 (some ⟨g7,0,none⟩) (a ++ [y]).length C).ownBlock)/\some b≠(b4 A a.length c).ownBlock) (λ k d m=>⟨m,⟨by omega,λ e=>by
          have e':k=g7:=by injection e
          rcases zt with h | h
          .have:=P g7 h;omega
          .try simp at h
           omega⟩,λ e=>by
          have:=P k e.symm;omega⟩)
         have h4:=((h3.keep (w':=w7) ⟨by simp at D;omega,λ k d m=>by
          rw[T.block k (by simp;omega) d.2.2,Below.heap_alloc t _ k m]⟩).up (B':=w7.heap.size) (by simp at D;omega)).imp (q:=λ b=>w.heap.size<=b/\some b≠(b4 (some ⟨g7,0,none⟩) (a ++ [y]).length C).ownBlock) (λ k d _=>d.2.1)
         exact qh (h2.snoc h4)
        .have e1:(a ++ [y]).length=a.length+1:=by simp
         have e2:(css ++ [aA y A3 c3 A4 c4]).flatten=css.flatten ++ aA y A3 c3 A4 c4:=by simp
         rw[e1,e2];exact qh qC
        .exact qh (by simp at D;omega)
        .exact qh ((vS.o.alloc _).grown T (λ k d=>by
          have F:=U k d;omega))
        .have F:R=Pz s.data.toList.length (.oW o) (a ++ [y]) (wordsOf s.data.toList i4):=by rw[TC.o,gY];dsimp only[iC];rw[if_pos O.o];unfold dG;rw[if_pos M.o,<- Q.o.1];dsimp only;rw[B];rfl
         exact qh F
        .have F:=vN B;have h2:=Q.o.2;have h3:=X.o;exact qh ⟨by simp;omega,by omega⟩
        .exact qh (by simp)
       case measure =>
        have F:=X.o.1;have h2:=Q.o.2;simp;omega
     .have N:¬ ((a.length:Nat):Int)<((hi:Nat):Int):=by omega
      have a3:=qh (show ¬ a.length<(jm o).2 by rw[yM.o.2];exact hh);clear m hh;have f:R = .ok a (wordsOf s.data.toList l):=by rw[TC.o,gY];dsimp only[iC];rw[if_neg (λ h=>by rcases h with h | h;exact SY.o h;exact a3.o h.2)]
      have qP:=qh f;clear f;go_wp2_with (go_at_call 289;(with_reducible refine aa.o.mono ?_);rintro e w3 ⟨rfl,rfl⟩);go_ret;rw[HG.o,qP.o];exact⟨l,css,A,c,rfl,by rfl,HE.o.imp (λ k d _=>d.1),own_base HO.o (by omega),by have:=X.o.1;omega,VK.o,Z.o⟩
theorem nU {s:ByteArray} {i:Nat} {t:Tok} (h:dE s.data.toList i=some t):bD s i=t.at_/\bH s i=t.tx/\fD s i=t.touch:=by unfold bD bH fD;rw[h];exact⟨rfl,rfl,rfl⟩
theorem ug (x:List UInt8) (w:World):CS 327 #[bR (tb x)] w (bN bO (gz x)):=by
 obtain⟨u,q⟩:=af (tb x);have t:=qh q;rw[q];clear q;go_enter func327,ntmps327;go_wp2_with fail;refine (xN w).mono ?_;rintro G W ⟨D,rfl,s,f⟩;have E:=qh s;clear s;go_wp2_with fail;go_loopw [7,3,4] (λ i _ _ z=>∃ k:Nat,k<=7/\i = bN bO k/\Hid (∀ j:Nat,0<j->j<k->jV (j:Nat)≠x)/\z=W) (λ i _ _ _=>7 - (intOf i).toNat)
 case atStart=>exact⟨0,b9 _,rfl,qh (λ j h p=>by omega),rfl⟩
 case round =>
  obtain⟨k,I,rfl,r,rfl⟩:=hrel;by_cases hlt:k<7
  .have b:k<vI.length:=hlt;obtain⟨ad,c,F,a⟩:=E.o.2 (by decide);injection c with c;subst c;have g:(dP vI)[k]?=some (bR (tb (jV (k:Nat)))):=by
    unfold dP;rw[List.getElem?_map,cf b];rw[Option.map_some,acW k b]
   have A:=a k _ g;obtain⟨v,d⟩:=af (tb (jV (k:Nat)));rw[d] at A;have l:=qh hlt;have B:(0:Int)<=(k:Nat):=by omega
   have y:(k:Int)<7:=by omega
   clear g a F;by_cases hp:0<k
   .have H:=qh hp;have n:(0:Int)<(k:Nat):=by omega
    by_cases he:jV (k:Nat)=x
    .have bs:(v.toList == u.toList)=true:=kH (by rw[<- d,<- t.o,he]);have o:=qh (QY hp hlt he);clear he d hp;go_wp2_with fail;go_ret;exact⟨by rw[o.o];rfl,f⟩
    .have bs:(v.toList == u.toList)=false:=dV (λ e=>he (J3 (by rw[d,t.o,e])));have C:=qh (show ∀ j:Nat,0<j->j<k+1->jV (j:Nat)≠x from λ j h p=>by
      by_cases hj:j=k
      .subst hj;exact he
      .exact r.o j h (by omega))
     clear he d hp;go_wp2_with fail;go_roundw
     case rel=>exact⟨k+1,l.o,by go_num,C,trivial⟩
     case measure =>
      have:=l.o;simp[intOf];omega
   .have n:¬ (0:Int)<(k:Nat):=by omega
    have m:=qh (show k=0 by omega);clear hp d;go_wp2_with fail;go_roundw
    case rel=>exact⟨k+1,l.o,by go_num,qh (λ j h p=>by have:=m.o;omega),trivial⟩
    case measure =>
     have:=l.o;simp[intOf];omega
  .have o:=qh (VT (w:=x) (λ j h p=>r.o j h (by omega)));clear r;go_wp2_with fail;go_ret;exact⟨by rw[o.o];rfl,f⟩
theorem zx (x:List UInt8) (w:World):CS 328 #[bR (tb x)] w (bN bO (kL x)):=by
 obtain⟨u,q⟩:=af (tb x);have B:=qh q;rw[q];clear q;go_enter func328,ntmps328;go_wp2_with fail;refine (NI w).mono ?_;rintro O W ⟨l,rfl,z,f⟩;have H:=qh z;have g:DD W W:=Below.refl _ _;clear z;go_wp2_with fail;go_loopw [7,4] (λ i _ D=>∃ k:Nat,k<=22/\i = bN bO k/\Hid (∀ d∈dZ.take k,d.1.data.toList≠x)/\DD W D) (λ i _ _=>22 - (intOf i).toNat)
 case atStart=>exact⟨0,b9 _,rfl,qh (λ d h=>by simp at h),g⟩
 case round =>
  obtain⟨k,Q,rfl,p,c⟩:=hrel;have t:=c.size;by_cases hlt:k<22
  .have b:k<dZ.length:=hlt;obtain⟨ad,M,m,J,j,a⟩:=(dI H.o c).at_ b;injection m with m;subst m;obtain⟨d,o⟩:=af (dZ[k]);have r:=qh (show dZ.take (k+1)=dZ.take k ++ [d] by rw[List.take_succ_eq_append_getElem b,o]);have s:=qh (show d.1.data.toList=x->kL x=d.2 from λ h=>by rw[<- o];exact QX b p.o (by rw[o];exact h));rw[o] at j;have A:=qh hlt;obtain⟨n,v⟩:=d;have G:M = [bR n,bN bO v]:=j;subst G;have N:wr.cell? (l.add (k*2))=some (bR n):=a 0 _ rfl;have P:wr.cell? ⟨(l.add (k*2)).block,(l.add (k*2)).off+1,none⟩=some (bN bO v):=a 1 _ rfl;have E:(0:Int)<=(k:Nat):=by omega
   have C:(k:Int)<22:=by omega
   clear j a o J b;by_cases ho:n.data.toList=x
   .have bo:(n.toList == u.toList)=true:=kH (by rw[<- B.o,<- ho,Y7]);have K:=qh (s.o ho);clear ho;go_wp2_with fail;go_ret;exact⟨by rw[K.o];rfl,f.trans ((c.alloc t _).mono f.size)⟩
   .have bo:(n.toList == u.toList)=false:=dV (λ e=>ho (by rw[e,<- B.o,jf]));have F:=qh (show ∀ d∈dZ.take (k+1),d.1.data.toList≠x by
     rw[r.o];intro y L;rcases List.mem_append.1 L with h | h
     .exact p.o y h
     .rw[List.mem_singleton] at h;rw[h];exact ho)
    clear ho;go_wp2_with fail;go_roundw
    case rel=>exact⟨k+1,A.o,by go_num,F,c.alloc t _⟩
    case measure =>
     have:=A.o;simp[intOf];omega
  .have I:=qh (show kL x=0 from VR (by have h:=p.o;rwa [List.take_of_length_le (show dZ.length<=k by show 22<=k;omega)] at h));clear p;go_wp2_with fail;go_ret;exact⟨by rw[I.o];rfl,f.trans (c.mono f.size)⟩
def ac0 (w:World) (g:Nat) (s:ByteArray) (i:Nat) (e:Ending) (w':World):Prop:=match nameAt (wordsOf s.data.toList i) with
 | some x=>∃ i',e = b1 (bR (tb x))/\wordsOf s.data.toList i'=(wordsOf s.data.toList i).tail/\bI w' g s i'/\Kp g w w'
 | none=>e=IU (oZ s.data.toList.length (wordsOf s.data.toList i))/\w=w'
theorem Oy (g:Nat) (s:ByteArray) (i:Nat) (w:World) (h:bI w g s i):Calls lM 329 #[bX (some ⟨g,0,none⟩)] w λ e w'=>ac0 w g s i e w':=by
 have N:=qh h;have HW:=qh (oN g s i w h);have G:=qh (next_any g s i w h);have c2:w.cell? ⟨g,2,none⟩=some (bR (tb (bH s i))):=h.b.cell 2;have c3:w.cell? ⟨g,3,none⟩=some (b0 (fD s i)):=h.b.cell 3;have B:=qh (kY s i);unfold ac0;rw[B.o];cases ht:dE s.data.toList i with
 | none =>
  have o:=pI ht;have H:bH s i = []:=by unfold bH;rw[ht]
  rw[H] at c2;rw[show nameAt (wordsOf s.data.toList i)=none by rw[o];rfl];change w.cell? ⟨g,2,none⟩=some (bR ⟨#[]⟩) at c2;clear o H ht h N G;go_enter func329,ntmps329;go_wp2_with (go_at_call 256;(with_reducible refine HW.o.mono ?_);rintro e b ⟨rfl,rfl⟩);exact⟨rfl,rfl,rfl⟩
 | some t =>
  obtain⟨I,E,F⟩:=nU ht;obtain⟨Q,a,D⟩:=rJ ht;obtain⟨c0,r⟩:=af (s.data.toList.getD t.at_ 0);rw[r] at a;have o:wordsOf s.data.toList i=t :: wordsOf s.data.toList (t.at_+t.tx.length):=by rw[gy,ht]
  rw[E] at c2;rw[F] at c3;have q:nameAt (wordsOf s.data.toList i)=if !t.touch && (rW c0 && !dK.contains t.tx) then some t.tx else none:=by
   have A:nameB t.tx=(rW c0 && !dK.contains t.tx):=by
    unfold nameB;congr 1;rw[a]
   rw[o,<- A];rfl
  rw[q];obtain⟨u,m⟩:=af (tb t.tx);have k:0<u.size:=by rw[<- m,lU,a];simp
  have p:u[0]=c0:=by
   subst m;have n:(tb t.tx).data.toList[0]?=some c0:=by rw[jf,a];rfl
   have v:(tb t.tx).data.toList[0]?=some (tb t.tx)[0]:=by
    rw[cf (by rw[aN];exact k)];rfl
   rw[v] at n;injection n
  have C:(u.toList == (⟨#[]⟩:ByteArray).toList)=false:=dV (λ e=>by rw[e] at k;exact absurd k (by decide));have K:u.toList.isEmpty=false:=by
   cases h:u.toList.isEmpty with
   | false=>rfl
   | true =>
    have n:u.toList = []:=List.isEmpty_iff.1 h;have v:(u.toList == (⟨#[]⟩:ByteArray).toList)=true:=by rw[n];simp
    rw[C] at v;cases v
  have x:=qh (show ∀ w',Calls lM 55 #[.int .u8 (u[0].toNat:Nat)] w' λ e l=>e = b1 (b0 (rW c0))/\w'=l from λ w'=>by rw[p];exact nC c0 w');have d:=qh (show ∀ w',Calls lM 56 #[bR u] w' λ e l=>e = b1 (b0 (dK.contains t.tx))/\w'=l from λ w'=>by
   have n:=lH u w'
   rwa [show u.data.toList=t.tx from by rw[<- m,jf]] at n)
  have O:=qh m;have P:=qh (show wordsOf s.data.toList (bD s i+(bH s i).length)=(wordsOf s.data.toList i).tail by rw[I,E,o];rfl);rw[m] at c2;obtain⟨M,c⟩:=af (t.touch);obtain⟨J,f⟩:=af (rW c0);obtain⟨L,j⟩:=af (dK.contains t.tx);rw[c] at c3;rw[c,f,j];rw[f] at x;rw[j] at d;clear m p c f j q o a D r I E F ht h;cases M
  .cases J
   .go_enter func329,ntmps329;go_wp2_with (first | (go_at_call 256;(with_reducible refine HW.o.mono ?_);rintro e b ⟨rfl,rfl⟩) | (go_at_call 55;(with_reducible refine (x.o _).mono ?_);rintro e b ⟨rfl,rfl⟩));exact⟨rfl,rfl,rfl⟩
   .cases L
    .rw[if_pos (show (!false && (true && !false))=true from rfl)];go_enter func329,ntmps329;go_wp2_with (first | (go_at_call 254;(with_reducible refine G.o.mono ?_);rintro e b ⟨rfl,z,y⟩) | (go_at_call 55;(with_reducible refine (x.o _).mono ?_);rintro e b ⟨rfl,rfl⟩) | (go_at_call 56;(with_reducible refine (d.o _).mono ?_);rintro e b ⟨rfl,rfl⟩));go_ret;exact⟨bD s i+(bH s i).length,by rw[O.o];rfl,P.o,z,y⟩
    .go_enter func329,ntmps329;go_wp2_with (first | (go_at_call 256;(with_reducible refine HW.o.mono ?_);rintro e b ⟨rfl,rfl⟩) | (go_at_call 55;(with_reducible refine (x.o _).mono ?_);rintro e b ⟨rfl,rfl⟩) | (go_at_call 56;(with_reducible refine (d.o _).mono ?_);rintro e b ⟨rfl,rfl⟩));exact⟨rfl,rfl,rfl⟩
  .go_enter func329,ntmps329;go_wp2_with (go_at_call 256;(with_reducible refine HW.o.mono ?_);rintro e b ⟨rfl,rfl⟩);exact⟨rfl,rfl,rfl⟩
end Go.Proofs.YtcnagconagpkcaaGreatDoor
