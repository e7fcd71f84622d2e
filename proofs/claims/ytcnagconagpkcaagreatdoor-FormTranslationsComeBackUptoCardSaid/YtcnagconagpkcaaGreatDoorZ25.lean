/- Lemmas. -/
import Derived.Test.YtcnagconagpkcaaGreatDoorZ24
import Derived.Test.YtcnagconagpkcaaGreatDoorRows
import Derived.ProofKit
import Derived.SliceStrings
import Derived.ChangeSlices
import Derived.Deep.Slices
import Derived.Lib.SmallJoins
import Derived.Lib.AppendZeros
import Derived.Test.YtcnagconagpkcaaGreatDoorCards
import Derived.Test.YtcnagconagpkcaaGreatDoorTie
import Derived.OpenShut
import Derived.Deep.DeepHandedRow
import Derived.Deep.DeepLaidRun
import Derived.Lib.LaidTab
import Derived.Stop.LaidErr
import Derived.PinnedBridge
import Derived.Shelf.Vars
open Go.Value renaming int->bj, string->bm, slice->bn, pointer->bo, oneCell'->bR
open Go.IntKind renaming i64->bk
open Go.Ending renaming returned->bp
open Go.DataW renaming trod->bq, trod_struct->bt, slice->bO, trod_string->cg, TrodAll->ck
open List renaming drop_zero->br, drop_succ_cons->bv, take_succ_cons->bw, take_zero->bx, range->bz, getElem?_eq_getElem->bE, map_cons->bL, sum_cons->bN, mem_cons->bP, length_map->bS, length_cons->b4, range_succ->b5, flatMap_append->b6, getElem?_drop->cc, getD_eq_getElem?_getD->ce, map_map->cf, mem_append_left->cn
open List.cons renaming injEq->bs
open And renaming intro->bA
open Nat renaming zero_le->bB, le_trans->bX, le_refl->b0, succ_mul->b9, mul_comm->ca, div_add_mod->cb, strongRecOn->cj
set_option maxHeartbeats 4000000
set_option maxRecDepth 100000
namespace Go.Proofs.YtcnagconagpkcaaGreatDoor
section
open Go.RowKit
attribute [local go_sem ↓] Go.wp_at_zero Go.wp_at_succ ld_form st_form
theorem Uw {f:aI} (h:aX f=0) (k:Nat):(iq f.lists (ai f) k (bJ f.lists (ai f))).length<=1048576:=
 bX (Gw _ _ _ _) (bX (yI (WX h) (by have:=(O8 h).sh.len;omega)) (by decide))
theorem zU {w:World} {f:aI} {x:jS} (i:jq w w.heap.size f x) (d:nV (ai f)) (n:aX f=0) (a:Tab w) (b:Mx w) {k:Nat} (p:k<f.ag.length) :
  Calls Tryz.prog 8 #[.agg (BK f x),bj bk k] w λ e w'=>(∃ A c,e = bp (.tuple #[bn A (iq f.lists (ai f) k (bJ f.lists (ai f))).length c,bj bk 0])/\Reads w' w'.heap.size 2 A (iq f.lists (ai f) k (bJ f.lists (ai f))).length (nY (iq f.lists (ai f) k (bJ f.lists (ai f)))))/\DD w w':=
 (Px i d WX a b k).mono λ e w' ⟨j,m⟩=>⟨by
  rcases j with ⟨h,-⟩ | ⟨-,h,-⟩ | ⟨-,l,v,o,-,rfl,g⟩
  .exact absurd n h
  .unfold aW at h;simp at h;omega
  .obtain rfl:k=l:=by omega
   obtain⟨A,c,rfl⟩:=dX g;exact⟨A,c,rfl,Reads.fB g⟩,m⟩
theorem YI {w:World} {f:aI} {x:jS} {nm:ByteArray} {l:List jO} {AE:Option Addr} {cE:Nat} (hf:jq w w.heap.size f x) (Z:nV (ai f)) (Ul:Fp f.items<=1048574) (v:Tab w) (ak:Mx w)
  (hE:Reads w w.heap.size 2 AE l.length (nY l)) (ax:∀ e∈l,e.1.size<=1048576/\e.2.size<=1048576) (V:l.length<=1048576) (bc:nm.size<=1048576) :
  CS 3 #[.agg (BK f x),bm nm,bn AE l.length cE] w (.bool true):=by
 obtain⟨W,hW,g,BA⟩:=box w 26 (BK f x);have l1:(wL 26 (bo (some ⟨w.heap.size,0,none⟩))).run Tryz.prog W = .ok (.agg (BK f x)) W:=lQ (cs:=[bm f.nm,bj bk f.jo,bn x.AL f.ag.length x.cl,bn x.AS f.lists.length x.cs,bn x.AI f.items.length x.ci]) rfl (gZ BA);have KT:=qh (G6 (cE:=cE) ((hf.keep g).up g.size) Z Ul (aB v g) (ak.below g) ((hE.below g).more g.size) ax V bc);have jU:=qh (bA v ak);have HF:=qh (bA hf (bA Z Ul));have HE:=qh hE;have fJ:=qh (bA g BA);clear hf Z Ul v ak hE ax BA g;go_enter Tryz.func3,Tryz.ntmps3;go_upto_region 1 with (fail);rw[<- hW];clear hW;go_upto_region 2 with (go_at_call 6;(with_reducible refine KT.o.mono ?_);rintro e1 F ⟨hr,pX⟩;have Dn:=qh pX;clear pX;rcases hr with ⟨n,hn,rfl⟩ | ⟨P,av,E,aq,M,y,rfl,a2⟩ <;> (first | have aE:=zf (w:=F) (cs:=[bm f.nm,bj bk f.jo,bn y.AL (iY f nm (oJ l)).ag.length y.cl,bn y.AS f.lists.length y.cs,bn y.AI f.items.length y.ci]) rfl (by simp[bR]) | have aE:=zf (w:=F) (cs:=[bm ⟨#[]⟩,bj bk 0,bn none 0 0,bn none 0 0,bn none 0 0]) rfl (by simp[bR])))
 .have bg:(n != 0)=true:=bne_iff_ne.2 hn;have ao:=fJ.o.1.trans (Dn.o.mono fJ.o.1.size);have ba:=ao.trans ((az F (.cells #[bm ⟨#[]⟩,bj bk 0,bn none 0 0,bn none 0 0,bn none 0 0] 26 (0,0))).mono ao.size);go_wp2;go_ret;exact⟨rfl,ba⟩
 try clear aE
 have ay:=ady P av E aq M;have D:=qh (bA P M);have a1:=WX P;have aw:=WX M;have ar:=qh (show nV (ai (iY f nm (oJ l))) from by rw[BP];exact Jq HF.o.2.1 _ _);have e1:f.lists.length=(iY f nm (oJ l)).lists.length:=by unfold iY;rw[bS]
 have e2:f.items.length=(iY f nm (oJ l)).items.length:=by unfold iY;rw[rU,bS]
 have a7:=aw.la;have bf:=a1.la;clear P av E aq M KT;have s:DD F (F.alloc (.cells #[bm f.nm,bj bk f.jo,bn y.AL (iY f nm (oJ l)).ag.length y.cl,bn y.AS f.lists.length y.cs,bn y.AI f.items.length y.ci] 26 (0,0))):=az F _;have BN:=ah.new F 26 #[bm f.nm,bj bk f.jo,bn y.AL (iY f nm (oJ l)).ag.length y.cl,bn y.AS f.lists.length y.cs,bn y.AI f.items.length y.ci];obtain⟨W2,am⟩:=aG (F.alloc (.cells #[bm f.nm,bj bk f.jo,bn y.AL (iY f nm (oJ l)).ag.length y.cl,bn y.AS f.lists.length y.cs,bn y.AI f.items.length y.ci] 26 (0,0)));rw[<- am] at s BN ⊢;have a4:DD w W2:=fJ.o.1.trans ((Dn.o.trans (s.mono Dn.o.size)).mono fJ.o.1.size);have a6:=(fJ.o.2.below Dn.o fJ.o.2.lt).below s (Nat.lt_of_lt_of_le fJ.o.2.lt Dn.o.size);have Y:=qh ((a2.keep s).up s.size);have q:=qh (bA a6 BN);clear am s a2;obtain⟨d,aa⟩:=af (iY f nm (oJ l));have an:d.nm=f.nm/\d.jo=f.jo:=by rw[<- aa];exact⟨rfl,rfl⟩
 rw[aa] at ay D ar e1 e2 a7 Y q BN ⊢;obtain⟨X,U,T⟩:=ay;obtain⟨p,hp⟩:=af (xA f.ag nm);rw[hp] at X U T;have KI:=qh (show Calls Tryz.prog 7 #[bn y.AL d.ag.length y.cl,bm nm] W2 λ e w'=>e = bp (bj bk (if xA d.ag nm<d.ag.length then ((xA d.ag nm:Nat):Int) else -1))/\W2=w' from (GR y.AL y.cl W2.heap.size d.ag nm W2 (by omega) (by unfold maxLen;omega) Y.o.la.1).mono λ _ _ h=>⟨h.1,h.2.symm⟩);have ap:xA d.ag nm=p:=X;rw[ap,if_pos U] at KI;have q2:=BN.cell 2;have bh:¬ ((p:Int)<0):=by omega
 have L:=qh T;have aM:=qh (bA e1 e2);have aZ:=qh an;clear aa hp X T ap e1 e2 an a1 aw;go_upto_region 9 with (go_at_call 7;(with_reducible refine KI.o.mono ?_);rintro e3 w3 ⟨rfl,rfl⟩);have o:=qh (show ∀ a,DD W2 a->(wL 26 (bo (some ⟨w.heap.size,0,none⟩))).run Tryz.prog a = .ok (.agg (BK f x)) a/\(wL 26 (bo (some ⟨F.heap.size,0,none⟩))).run Tryz.prog a = .ok (.agg #[bm f.nm,bj bk f.jo,bn y.AL d.ag.length y.cl,bn y.AS f.lists.length y.cs,bn y.AI f.items.length y.ci]) a/\DD w a from λ a m=>⟨lQ (cs:=[bm f.nm,bj bk f.jo,bn x.AL f.ag.length x.cl,bn x.AS f.lists.length x.cs,bn x.AI f.items.length x.ci]) rfl (gZ (q.o.1.below m q.o.1.lt)),lQ (cs:=[bm f.nm,bj bk f.jo,bn y.AL d.ag.length y.cl,bn y.AS f.lists.length y.cs,bn y.AI f.items.length y.ci]) rfl (gZ (q.o.2.below m q.o.2.lt)),a4.trans (m.mono a4.size)⟩);have a0:=qh (show ∀ a (k:Nat),DD W2 a->k<f.ag.length->Calls Tryz.prog 8 #[.agg (BK f x),bj bk k] a λ e w'=>(∃ A c,e = bp (.tuple #[bn A (iq f.lists (ai f) k (bJ f.lists (ai f))).length c,bj bk 0])/\Reads w' w'.heap.size 2 A (iq f.lists (ai f) k (bJ f.lists (ai f))).length (nY (iq f.lists (ai f) k (bJ f.lists (ai f)))))/\DD a w' from λ a k m hk=>by
  have K:=(o.o a m).2.2;exact zU ((HF.o.1.keep K).up K.size) HF.o.2.1 D.o.1 (aB jU.o.1 K) (jU.o.2.below K) hk)
 have ac:=qh (show ∀ a (k:Nat),DD W2 a->k<d.ag.length->Calls Tryz.prog 8 #[.agg #[bm f.nm,bj bk f.jo,bn y.AL d.ag.length y.cl,bn y.AS f.lists.length y.cs,bn y.AI f.items.length y.ci],bj bk k] a λ e w'=>(∃ A c,e = bp (.tuple #[bn A (iq d.lists (ai d) k (bJ d.lists (ai d))).length c,bj bk 0])/\Reads w' w'.heap.size 2 A (iq d.lists (ai d) k (bJ d.lists (ai d))).length (nY (iq d.lists (ai d) k (bJ d.lists (ai d)))))/\DD a w' from λ a k m hk=>by
  have K:=(o.o a m).2.2;have h:=zU ((Y.o.keep m).up m.size) ar.o D.o.2 (aB jU.o.1 K) (jU.o.2.below K) hk;unfold BK at h;rw[<- aM.o.1,<- aM.o.2,aZ.o.1,aZ.o.2] at h;exact h)
 have S:=qh (show (∀ k,(iq d.lists (ai d) k (bJ d.lists (ai d))).length<=1048576)/\∀ k,(iq f.lists (ai f) k (bJ f.lists (ai f))).length<=1048576 from ⟨Uw D.o.2,Uw D.o.1⟩);obtain⟨a5,aL⟩:∃ z:Nat->List jO,(λ k=>iq d.lists (ai d) k (bJ d.lists (ai d)))=z:=⟨_,rfl⟩;obtain⟨old,O⟩:∃ z:Nat->List jO,(λ k=>iq f.lists (ai f) k (bJ f.lists (ai f)))=z:=⟨_,rfl⟩;have hg:∀ k,iq d.lists (ai d) k (bJ d.lists (ai d))=a5 k:=λ k=>congrFun aL k;have ho:∀ k,iq f.lists (ai f) k (bJ f.lists (ai f))=old k:=λ k=>congrFun O k;simp only[hg] at S ac L;simp only[ho] at S a0 L;obtain⟨nl,aR⟩:=af (d.ag.length);rw[aR] at a7 U ac L o q2 ⊢;clear aL O hg ho aR KI q2 l1 q BN a6;go_loopw [35] (λ i wr=>∃ k:Nat,i = bj bk k/\k<=nl/\DD W2 wr) (λ i _=>nl+1 - (intOf i).toNat)
 case atStart=>exact⟨0,rfl,bB _,Below.refl _ _⟩
 case round =>
  obtain⟨k,rfl,hk,m⟩:=hrel;obtain⟨wo,rfl⟩:=aG (wr);by_cases hlt:k<nl
  case neg =>
   obtain rfl:k=nl:=by omega
   have g:=(o.o wo m).2.2;go_wp2;go_ret;exact⟨rfl,g⟩
  have Q:=qh (ac.o wo k m hlt);have l2:=(o.o wo m).2.1;have h3:=L.o k hlt;have u:=S.o.1 k;have aV:=qh hlt;by_cases hkp:k=p
  case neg =>
   rw[if_neg hkp] at h3;have be:((k:Int) != (p:Int))=true:=by simp;omega
   obtain⟨a9,E⟩:=h3;rw[E] at Q u;obtain⟨G,hG⟩:=af (old k);have KH:=qh (show ∀ a,DD W2 a->_ from λ a P=>a0.o a k P a9);rw[hG] at Q KH u;clear E hG hkp;go_upto_region 14 with (go_at_call 8;(with_reducible refine Q.o.mono ?_);rintro e4 R ⟨⟨A4,c4,rfl,t⟩,J⟩);have Sz:=m.trans (J.mono m.size);have al:=qh t;have bb:=qh (KH.o R Sz);have l3:=(o.o R Sz).1;clear l2 t Q;go_wp2_with (first
    | (go_at_call 8;(with_reducible refine bb.o.mono ?_);rintro e5 w5 ⟨⟨A5,c5,rfl,a3⟩,I⟩;have KQ:=qh (Sv (c:=c4) (c':=c5) (al.o.below I) a3 I.size (b0 _) u u);rw[decide_eq_true rfl] at KQ;clear a3)
    | (go_at_call 9;(with_reducible refine KQ.o.mono ?_);rintro e6 w6 ⟨rfl,C⟩))
   go_roundw
   case rel=>exact⟨k+1,by go_num,aV.o,Sz.trans ((I.trans (C.mono I.size)).mono Sz.size)⟩
   case measure =>
    have:=aV.o;simp[intOf];omega
  subst hkp;rw[if_pos rfl] at h3;obtain⟨B,ab⟩:=h3;have be:((k:Int) != (k:Int))=false:=by simp
  obtain⟨G,hG⟩:=af (a5 k);rw[hG] at Q u B ab;obtain⟨nE,N⟩:=af (l.length);have Qz:=qh N;rw[N] at B V;have HM:=qh ab;have aD:=qh B;rw[B] at Q;have bi:((nE:Int) != (nE:Int))=false:=by simp
  rw[N];clear hG N B ab;go_upto_region 21 with (go_at_call 8;(with_reducible refine Q.o.mono ?_);rintro e4 R ⟨⟨A4,c4,rfl,t⟩,J⟩);have Sz:=m.trans (J.mono m.size);have al:=qh (show ∀ a,DD R a->Reads a R.heap.size 2 A4 G.length (nY G) from λ a P=>by rw[aD.o];exact t.below P);clear l2 t Q J;go_loopw [70] (λ i wr=>∃ j:Nat,i = bj bk j/\j<=nE/\DD R wr) (λ i _=>nE+1 - (intOf i).toNat)
  case atStart=>exact⟨0,rfl,bB _,Below.refl _ _⟩
  case round =>
   obtain⟨j,rfl,hj,H⟩:=hrel;obtain⟨wp,rfl⟩:=aG (wr);have ae:=Sz.trans (H.mono Sz.size);by_cases hjl:j<nE
   case neg =>
    obtain rfl:j=nE:=by omega
    go_wp2;go_roundw
    case rel=>exact⟨k+1,by go_num,aV.o,ae⟩
    case measure =>
     have:=aV.o;simp[intOf];omega
   have ag:j<G.length:=by rw[aD.o];exact hjl
   obtain⟨ad,rfl,p0,p1⟩:=G5 (al.o wp H) ag;have hm:=HM.o _ (List.getElem_mem ag);obtain⟨e,he⟩:=af (G[j]);rw[he] at p0 p1 hm;have D6:=qh hjl;obtain⟨W6,uN,C,BE⟩:=box wp 36 #[bm e.1,bm e.2];have q0:=BE.cell 0;have q1:=BE.cell 1;have a8:=ae.trans (C.mono ae.size);have OX:=(o.o W6 a8).2.2;have KC:=qh (show Calls Tryz.prog 10 #[bn AE nE cE,.agg #[bm e.1,bm e.2]] W6 λ r w'=>r = bp (.bool true)/\DD W6 w' from by
    have h:=Ih (c:=cE) e (HE.o.below OX) OX.size (by rw[Qz.o];exact V);rw[Qz.o] at h;exact h.mono λ _ _ ⟨⟨b,hr,hi⟩,K⟩=>⟨by rw[hr,hi.2 hm],K⟩)
   clear he hm ag BE;go_upto_region 22 with (fail);rw[<- uN];clear uN p0 p1;go_wp2_with (go_at_call 10;(with_reducible refine KC.o.mono ?_);rintro e7 w7 ⟨rfl,bd⟩);go_roundw
   case rel=>exact⟨j+1,by go_num,D6.o,H.trans ((C.trans (bd.mono C.size)).mono H.size)⟩
   case measure =>
    have:=D6.o;simp[intOf];omega
end
section
open Go.RowKit
attribute [local go_sem ↓] Go.wp_at_zero Go.wp_at_succ
structure SiR (en:Ending) (w w':World) (B:Nat) (cells:List bu) (loops:List bU) (bounds:List jv) (rows:List uO):Prop where
 ex:∃ p,en = bp (.tuple #[bo p,bj bk (Kv cells loops bounds rows)])/\(Kv cells loops bounds rows=0->∃ gs m1 m2 m3 m4 lC lI XZ kv4,p=some ⟨gs,0,none⟩/\adm w' B gs m1 m2 m3 m4 lC lI XZ kv4 cells loops bounds rows/\w.heap.size<=m3/\w.heap.size<=m4/\w.heap.size<=gs)
 hb:DD w w'
theorem SiR.bad {d:Ending} {w w':World} {B:Nat} {c:List bu} {b:List bU} {a:List jv} {rows:List uO} (h:Kv c b a rows≠0) (e:d = bp (.tuple #[bo none,bj bk (Kv c b a rows)])) (g:DD w w'):SiR d w w' B c b a rows:=
 ⟨⟨none,e,λ f=>absurd f h⟩,g⟩
end
section
open Go.Deep Go.ChangeShapes Go.WideShapes Go.ChangeAt Go.RowKit Go.Joins
theorem aa3 {H:Type} (d:DataW H):1<=Rows.uptoBulk d:=by
 cases d with
 | lit l=>cases l <;> simp[Rows.uptoBulk]
 | nil=>simp[Rows.uptoBulk]
 | ptr d=>simp[Rows.uptoBulk]
 | slice a b=>simp[Rows.uptoBulk]
 | agg l=>simp[Rows.uptoBulk]
 | iface n d=>simp[Rows.uptoBulk]
 | map l=>simp[Rows.uptoBulk]
 | held v=>simp[Rows.uptoBulk]
theorem PO {H:Type}:∀ l:List (DataW H),Rows.uptoBulkAll l=(l.map Rows.uptoBulk).sum
 | []=>by simp[Rows.uptoBulkAll]
 | d :: r=>by rw[Rows.uptoBulkAll,PO r];simp
theorem zV {H:Type}:∀ l:List (DataW H),l.length<=Rows.uptoBulkAll l
 | []=>by simp
 | d :: r=>by
  have:=zV r;have:=aa3 d;rw[Rows.uptoBulkAll,b4];omega
theorem aa4 {f g:Nat->Nat}:∀ l:List Nat,(∀ i∈l,f i<=g i)->(l.map f).sum<=(l.map g).sum
 | [],_=>by simp
 | i :: r,h=>by
  have c:=aa4 r (λ j a=>h j (List.mem_cons_of_mem _ a));have b:=h i (List.mem_cons_self ..);simp only[bL,bN];omega
theorem zW {size:Nat} {f:Nat->List Value}:∀ {n:Nat},(∀ i,i<n->(f i).length=size)->((bz n).flatMap f).length=n*size
 | 0,_=>by simp
 | n+1,h=>by
  rw[b5,b6,List.length_append,zW (λ i a=>h i (by omega))];simp[h n (by omega),b9]
theorem Cb {size:Nat} {f:Nat->List Value}:∀ {n:Nat},(∀ i,i<n->(f i).length=size)->∀ i,i<n->(((bz n).flatMap f).drop (i*size)).take size=f i
 | n+1,h,i,hi=>by
  have b:=zW (λ j c=>h j (by omega)) (n:=n) (f:=f) (size:=size);rw[b5,b6];simp only[List.flatMap_cons,List.flatMap_nil,List.append_nil];by_cases hin:i<n
  .have a:i*size+size<=n*size:=by rw[<- b9];exact Nat.mul_le_mul_right _ hin
   rw[List.drop_append_of_le_length (by omega),List.take_append_of_le_length (by rw[List.length_drop];omega)];exact Cb (λ j c=>h j (by omega)) i hin
  .have e:i=n:=by omega
   subst e;rw[List.drop_append,b,Nat.sub_self,br,List.drop_eq_nil_of_le (by omega),List.nil_append,List.take_of_length_le (by rw[h i hi];exact b0 _)]
theorem ad2 {size:Nat} {f:Nat->List Value} {n:Nat} (h:∀ i,i<n->(f i).length=size) (b:0<size) {j:Nat} {u:Value} (d:((bz n).flatMap f)[j]?=some u):∃ i r,i<n/\r<size/\j=i*size+r/\(f i)[r]?=some u:=by
 have a:j<n*size:=by rw[<- zW h];exact (List.getElem?_eq_some_iff.1 d).1
 have c:j / size<n:=by rw[Nat.div_lt_iff_lt_mul b];exact a
 refine⟨j / size,j % size,c,Nat.mod_lt _ b,by rw[ca];exact (cb j size).symm,?_⟩;rw[<- Cb h _ c,List.getElem?_take,if_pos (Nat.mod_lt _ b),cc,ca,cb];exact d
section
variable {H:Type} {enc:TypeId × Value->H} {W:World}
theorem dU {α:Type} [Inhabited α] {Pd:World->Nat->α->List Value->Prop} {μ:α->Nat} {t e:TypeId} {size B:Nat} {cs:List Value} {x:DataW H × List MemPlace} (Q:Tryz.prog.underlying t=some (.slice e)) (L:Tryz.prog.cellsOf e=size) (v:0<size)
  (N:∀ n w y,n<B->bq enc Tryz.prog W 0 (λ _=>true) true n e w=some y->∃ a:α,Pd W W.heap.size a w/\μ a<=Rows.uptoBulk y.1) (h:bq enc Tryz.prog W 0 (λ _=>true) true B t cs=some x) :
  ∃ (A:Option Addr) (l:List α) (c:Nat),cs = [bn A l.length c]/\aF Pd size W W.heap.size A l/\l.length<=c/\(l.map μ).sum+1<=Rows.uptoBulk x.1/\l.length+1<=Rows.uptoBulk x.1:=by
 rcases DataW.trod_slice Q h with ⟨rfl,rfl⟩ | ⟨a,len,G,d,z,n,rfl,rfl,rfl,-,Y,Z,C,I,-,-⟩
 .exact⟨none,[],0,rfl,⟨by simp,[],Reads.none_,λ i o=>by cases o⟩,by simp,by simp[Rows.uptoBulk],by simp[Rows.uptoBulk]⟩
 .obtain⟨V,F⟩:=choose_lt (α:=α × List Value) (n:=len) (p:=λ i q=>W.cells? 0 (a.add (i*size)) size=some q.2/\Pd W W.heap.size q.1 q.2/\μ q.1<=Rows.uptoBulk (d.getD i (.nil,[])).1) (λ i o=>by
   have D:=I i o;have s:i<d.length:=by omega
   rw[bE s,L] at D;obtain⟨w,U,X⟩:=Option.bind_eq_some_iff.1 D;obtain⟨b,R,S⟩:=N n w _ (Nat.lt_succ_self n) X;exact⟨(b,w),U,R,by rw[ce,bE s];exact S⟩)
  have k:∀ i,i<len->(V i).2.length=size:=λ i o=>(World.cells?_some (F i o).1).2.1;have m:((bz len).map (λ i=>(V i).1)).length=len:=by simp
  refine⟨some a,(bz len).map (λ i=>(V i).1),G,by rw[m],⟨by rw[m];omega,(bz len).flatMap (λ i=>(V i).2),⟨by rw[m];exact zW k,λ M=>?_⟩,λ i o=>?_⟩,by rw[m];exact Y,?_,?_⟩
  .rw[m] at M;have E:∀ i r,i<len->r<size->∀ u,(V i).2[r]?=some u->W.cell? (a.add (i*size+r))=some u:=λ i r o O u K=>by
    have D:=(World.cells?_some (F i o).1).2.2 r O;rw[oQ] at D;rw[D,K]
   refine⟨a,rfl,?_,λ j u K=>?_⟩
   .have T:0<(V 0).2.length:=by rw[k 0 M];exact v
    have D:=E 0 0 M v _ (bE T);have:=block_lt_of_cell D
    rwa [iw] at this
   .obtain⟨i,r,o,O,rfl,J⟩:=ad2 k v K;exact E i r o O u J
  .have s:i<len:=by rw[m] at o;exact o
   rw[Cb k i s];simp only[List.getElem_map,List.getElem_range];exact (F i s).2.1
  .show _<=Rows.uptoBulk (bO (d.map (·.1)) (z.map (·.1)));rw[Rows.uptoBulk,PO];have P:(d.map (·.1)).map Rows.uptoBulk=(bz len).map (λ i=>Rows.uptoBulk (d.getD i (.nil,[])).1):=by
    rw[cf,map_by_index d (.nil,[]),C];rfl
   rw[P,cf];have:=aa4 (f:=μ ∘ λ i=>(V i).1) (g:=λ i=>Rows.uptoBulk (d.getD i (.nil,[])).1) (bz len) (λ i o=>(F i (List.mem_range.1 o)).2.2);omega
  .show _<=Rows.uptoBulk (bO (d.map (·.1)) (z.map (·.1)));rw[Rows.uptoBulk,m];have:=zV (d.map (·.1));rw[bS,C] at this;omega
theorem pW {a:Nat} {cs:List Value} {x:DataW H × List MemPlace} (h:bq enc Tryz.prog W 0 (λ _=>true) true a 3 cs=some x):∃ n,cs = [.int .i64 n]:=by
 obtain⟨n,e,-⟩:=DataW.trod_int Tryz.underlying3 h;exact⟨n,e⟩
theorem uw {a:Nat} {cs:List Value} {x:DataW H × List MemPlace} (h:bq enc Tryz.prog W 0 (λ _=>true) true a 9 cs=some x):∃ s:ByteArray,cs = [.string s]/\s.size<=maxLen:=by
 obtain⟨s,e,-,b⟩:=cg Tryz.underlying9 h;exact⟨s,e,b⟩
theorem xk {a:Nat} {cs:List Value} {x:DataW H × List MemPlace} (h:bq enc Tryz.prog W 0 (λ _=>true) true a 4 cs=some x):∃ b,cs = [.bool b]:=by
 obtain⟨b,e,-⟩:=DataW.trod_bool Tryz.underlying4 h;exact⟨b,e⟩
theorem aeQ {α:Type}:∀ {cs:List α},cs.length=2->∃ a b,cs = [a,b]
 | [a,b],_=>⟨a,b,rfl⟩
theorem list4 {α:Type}:∀ {cs:List α},cs.length=4->∃ a b c d,cs = [a,b,c,d]
 | [a,b,c,d],_=>⟨a,b,c,d,rfl⟩
theorem aky {α:Type}:∀ {cs:List α},cs.length=8->∃ a b c d e f g h,cs = [a,b,c,d,e,f,g,h]
 | [a,b,c,d,e,f,g,h],_=>⟨a,b,c,d,e,f,g,h,rfl⟩
theorem ad3 {a:Nat} {cs:List Value} {x:DataW H × List MemPlace} (h:bq enc Tryz.prog W 0 (λ _=>true) true a 65 cs=some x) :
  ∃ y0 y1 y2 y3 n,a=n+1/\x.1 = .agg [y0.1,y1.1,y2.1,y3.1]/\cs.length=4/\bq enc Tryz.prog W 0 (λ _=>true) true n 3 ((cs.drop 0).take 1)=some y0/\bq enc Tryz.prog W 0 (λ _=>true) true n 3 ((cs.drop 1).take 1)=some y1/\bq enc Tryz.prog W 0 (λ _=>true) true n 9 ((cs.drop 2).take 1)=some y2/\bq enc Tryz.prog W 0 (λ _=>true) true n 54 ((cs.drop 3).take 1)=some y3:=by
 obtain⟨xs,n,e,rfl,d,b,c⟩:=bt Tryz.underlying65 h
 match xs,b with
 | [y0,y1,y2,y3],_ =>
  refine⟨y0,y1,y2,y3,n,e,rfl,d.trans (by kernel_rfl),?_,?_,?_,?_⟩
  .have h:bq enc Tryz.prog W 0 (λ _=>true) true n 3 ((cs.drop 0).take (Tryz.prog.cellsOf 3))=some y0:=c 0 _ rfl;rw[show Tryz.prog.cellsOf 3=1 by kernel_rfl] at h;exact h
  .have h:bq enc Tryz.prog W 0 (λ _=>true) true n 3 ((cs.drop 1).take (Tryz.prog.cellsOf 3))=some y1:=c 1 _ rfl;rw[show Tryz.prog.cellsOf 3=1 by kernel_rfl] at h;exact h
  .have h:bq enc Tryz.prog W 0 (λ _=>true) true n 9 ((cs.drop 2).take (Tryz.prog.cellsOf 9))=some y2:=c 2 _ rfl;rw[show Tryz.prog.cellsOf 9=1 by kernel_rfl] at h;exact h
  .have h:bq enc Tryz.prog W 0 (λ _=>true) true n 54 ((cs.drop 3).take (Tryz.prog.cellsOf 54))=some y3:=c 3 _ rfl;rw[show Tryz.prog.cellsOf 54=1 by kernel_rfl] at h;exact h
theorem ad4 {a:Nat} {cs:List Value} {x:DataW H × List MemPlace} (h:bq enc Tryz.prog W 0 (λ _=>true) true a 67 cs=some x) :
  ∃ y0 y1 y2 y3 y4 n,a=n+1/\x.1 = .agg [y0.1,y1.1,y2.1,y3.1,y4.1]/\cs.length=8/\bq enc Tryz.prog W 0 (λ _=>true) true n 3 ((cs.drop 0).take 1)=some y0/\bq enc Tryz.prog W 0 (λ _=>true) true n 3 ((cs.drop 1).take 1)=some y1/\bq enc Tryz.prog W 0 (λ _=>true) true n 9 ((cs.drop 2).take 1)=some y2/\bq enc Tryz.prog W 0 (λ _=>true) true n 65 ((cs.drop 3).take 4)=some y3/\bq enc Tryz.prog W 0 (λ _=>true) true n 52 ((cs.drop 7).take 1)=some y4:=by
 obtain⟨xs,n,e,rfl,d,c,b⟩:=bt Tryz.underlying67 h
 match xs,c with
 | [y0,y1,y2,y3,y4],_ =>
  refine⟨y0,y1,y2,y3,y4,n,e,rfl,d.trans (by kernel_rfl),?_,?_,?_,?_,?_⟩
  .have h:bq enc Tryz.prog W 0 (λ _=>true) true n 3 ((cs.drop 0).take (Tryz.prog.cellsOf 3))=some y0:=b 0 _ rfl;rw[show Tryz.prog.cellsOf 3=1 by kernel_rfl] at h;exact h
  .have h:bq enc Tryz.prog W 0 (λ _=>true) true n 3 ((cs.drop 1).take (Tryz.prog.cellsOf 3))=some y1:=b 1 _ rfl;rw[show Tryz.prog.cellsOf 3=1 by kernel_rfl] at h;exact h
  .have h:bq enc Tryz.prog W 0 (λ _=>true) true n 9 ((cs.drop 2).take (Tryz.prog.cellsOf 9))=some y2:=b 2 _ rfl;rw[show Tryz.prog.cellsOf 9=1 by kernel_rfl] at h;exact h
  .have h:bq enc Tryz.prog W 0 (λ _=>true) true n 65 ((cs.drop 3).take (Tryz.prog.cellsOf 65))=some y3:=b 3 _ rfl;rw[show Tryz.prog.cellsOf 65=4 by kernel_rfl] at h;exact h
  .have h:bq enc Tryz.prog W 0 (λ _=>true) true n 52 ((cs.drop 7).take (Tryz.prog.cellsOf 52))=some y4:=b 4 _ rfl;rw[show Tryz.prog.cellsOf 52=1 by kernel_rfl] at h;exact h
instance:Inhabited bu:=⟨⟨.empty,0,[]⟩⟩
instance:Inhabited bU:=⟨⟨.empty,[]⟩⟩
instance:Inhabited jv:=⟨⟨.empty,[],⟨0,0,.empty,[]⟩,false⟩⟩
instance:Inhabited uO:=⟨⟨.empty,[],[]⟩⟩
instance:Inhabited Ex:=⟨.mk 0 0 .empty ⟨0,0,.empty,[]⟩ []⟩
end
section
variable {H:Type} {enc:TypeId × Value->H} {W:World}
theorem PQ {g:Nat} {cs:List Value} {x:DataW H × List MemPlace} (h:bq enc Tryz.prog W 0 (λ _=>true) true g 54 cs=some x) :
  ∃ (A:Option Addr) (l:List Int) (c:Nat),cs = [bn A l.length c]/\Reads W W.heap.size 1 A l.length (bK bk l)/\l.length<=c/\l.length<=maxLen/\l.length+1<=Rows.uptoBulk x.1:=by
 rcases open_ints Tryz.underlying54 Tryz.underlying3 (by kernel_rfl) h with ⟨rfl,rfl⟩ | ⟨a,len,i,d,rfl,-,q,r,m,rfl,b,k⟩
 .exact⟨none,[],0,rfl,Reads.none_,by simp,by simp,by simp[Rows.uptoBulk]⟩
 .simp only[if_true] at m;have e:(d.take len).length=len:=by simp;omega
  refine⟨some a,d.take len,i,by rw[e],?_,by rw[e];exact q,by rw[e];omega,?_⟩
  .rw[e];refine⟨by rw[uQ];omega,λ s=>?_⟩;have o:=b 0 (by omega);refine⟨a,rfl,by have:=block_lt_of_cell o;rwa [iw] at this,λ j u n=>?_⟩;obtain⟨p,rfl⟩:=oU _ _ _ _ n;have f:j<d.length:=by rw[e] at p;omega
   rw[b j f];simp[List.getD,f]
  .show _<=Rows.uptoBulk (bO (lits .i64 (d.take len)) (lits .i64 (d.drop len)));rw[Rows.uptoBulk];have:=zV (H:=H) (lits .i64 (d.take len));rw[show (lits (H:=H) .i64 (d.take len)).length=(d.take len).length by simp[lits]] at this;omega
end
end
section
open Go.RowKit
attribute [local go_sem ↓] Go.wp_at_zero Go.wp_at_succ
def akz (w:World) (B:Nat) (l:List Ex) (cs:List Value):Prop:=∀ i (h:i<l.length),bC w B l[i] ((cs.drop (i*8)).take 8)
theorem aa5 {w:World} {B:Nat} {e:Ex} {ds:List Value} (h:bC w B e ds):∀ v∈ds,v.oneCell'=true:=by
 obtain⟨-,-,-,-,-,-,-⟩:=h;simp[aA,bR]
theorem akz.one {w:World} {B:Nat} {l:List Ex} {cs:List Value} (h:akz w B l cs) (d:cs.length=l.length*8):∀ u∈cs,u.oneCell'=true:=by
 intro u b;obtain⟨j,c,rfl⟩:=List.mem_iff_getElem.1 b;have a:j / 8<l.length:=by omega
 refine aa5 (h _ a) _ ?_;rw[List.mem_iff_getElem?];refine⟨j % 8,?_⟩;rw[List.getElem?_take_of_lt (by omega),cc,show j / 8*8+j % 8=j by omega,bE c]
attribute [local go_sem ↓] ld_item st_item
theorem e3 {w:World} {p:Addr} {a b a2:Value} (h:∀ j u,[a,b,a2][j]?=some u->w.cell? (p.add j)=some u):w.cell? p=some a/\w.cell? ⟨p.block,p.off+1,none⟩=some b/\w.cell? ⟨p.block,p.off+2,none⟩=some a2:=⟨h 0 _ rfl,h 1 _ rfl,h 2 _ rfl⟩
mutual
theorem G7:∀ e:Ex,2*e.parts<=e.bl
 | .mk _ _ _ v ar=>by rw[Ex.parts,Ex.bl];have:=Js ar;omega
theorem Js:∀ l:List Ex,2*aJ l<=yD l
 | []=>bB _
 | a :: r=>by rw[aJ,yD];have:=G7 a;have:=Js r;omega
end
end
section
open Go.Deep Go.ChangeShapes Go.WideShapes Go.ChangeAt Go.RowKit Go.Joins
theorem Lj:∀ l:List ItemD,(l.map ItemD.cu).sum=Fp l
 | []=>by simp[Fp]
 | x :: r=>by rw[bL,bN,Lj r,Fp]
theorem Cc:∀ l:List Ex,(l.map Ex.bl).sum=yD l
 | []=>by simp[yD]
 | x :: r=>by rw[bL,bN,Cc r,yD]
def Small (M:Nat) (N:List au):Prop:=∀ d∈N,d.it.cu<=M
mutual
theorem ItemD.Xa {M:Nat}:∀ (g:ItemD) (a:List au) (b c e:Int) (f:List ByteArray),Small M a->g.cu<=M->Small M (g.add a b c e f)
 | .mk k nm iff ph items sh cnt over ans cmp,a,b,c,e,f,h,h1=>by
  have i:=h1;rw[ItemD.cu] at h1;rw[ItemD.add];refine yh items _ _ _ _ _ (λ d j=>?_) (by omega);rcases List.mem_append.1 j with q | q
  .exact h d q
  .rw[List.mem_singleton] at q;subst q;exact i
theorem yh {M:Nat}:∀ (l:List ItemD) (a:List au) (b c d:Int) (e:List ByteArray),Small M a->Fp l<=M->Small M (iZ l a b c d e)
 | [],a,_,_,_,_,h,_=>by rw[iZ];exact h
 | it :: r,a,b,c,d,e,h,h1=>by
  rw[Fp] at h1;rw[iZ];split
  .exact h
  .exact yh r _ _ _ _ _ (ItemD.Xa it a b c d e h (by omega)) (by omega)
end
theorem acF {N:List au} (h:Small 1048576 N):nV N:=by
 intro d f;have a:=h d f;rw[Ud] at a;have key:∀ {l:List Ex},yD l<=1048576->∀ e∈l,e.parts<=1000000:=λ i e b=>by have:=G7 e;have:=La b;omega
 have c:=a;unfold lN.cu at c;refine⟨key (by omega),key (by omega),key (by omega),key (by omega),λ r g=>?_⟩;have:=Lc g;have:=G7 r.must;omega
instance:Inhabited kN:=⟨⟨0,[],false,false⟩⟩
instance:Inhabited aS:=⟨⟨.empty,[]⟩⟩
instance:Inhabited dY:=⟨⟨default,false,[]⟩⟩
instance:Inhabited ItemD:=⟨aef.it⟩
theorem ao7 {α:Type}:∀ {cs:List α},cs.length=5->∃ b e a d c,cs = [b,e,a,d,c]
 | [b,e,a,d,c],_=>⟨b,e,a,d,c,rfl⟩
theorem aeR {α:Type}:∀ {cs:List α},cs.length=10->∃ d j a g f h i e b c,cs = [d,j,a,g,f,h,i,e,b,c]
 | [d,j,a,g,f,h,i,e,b,c],_=>⟨d,j,a,g,f,h,i,e,b,c,rfl⟩
theorem akA {α:Type}:∀ {cs:List α},cs.length=19->∃ q o f k j h l r m i e b d g p s a c n,cs = [q,o,f,k,j,h,l,r,m,i,e,b,d,g,p,s,a,c,n]
 | [q,o,f,k,j,h,l,r,m,i,e,b,d,g,p,s,a,c,n],_=>⟨q,o,f,k,j,h,l,r,m,i,e,b,d,g,p,s,a,c,n,rfl⟩
section
variable {H:Type} {enc:TypeId × Value->H} {W:World}
theorem xm {a m b:Nat} {T:TypeId} {cs:List Value} {y:DataW H × List MemPlace} (h:bq enc Tryz.prog W 0 (λ _=>true) true a T (cs.take m)=some y) (e:m=b):bq enc Tryz.prog W 0 (λ _=>true) true a T (cs.take b)=some y:=e▸h
theorem Lp {T:TypeId} (q:Tryz.prog.underlying T=some (.slice 9)) {f:Nat} {cs:List Value} {x:DataW H × List MemPlace} (h:bq enc Tryz.prog W 0 (λ _=>true) true f T cs=some x) :
  ∃ (A:Option Addr) (l:List ByteArray) (c:Nat),cs = [bn A l.length c]/\kz W W.heap.size A c l/\l.length+1<=Rows.uptoBulk x.1:=by
 rcases open_strings q Tryz.underlying9 (by kernel_rfl) h with ⟨rfl,rfl⟩ | ⟨a,len,i,b,rfl,-,v,w,g,rfl,m,n⟩
 .exact⟨none,[],0,rfl,⟨⟨rfl,λ h=>absurd h (by simp)⟩,by simp,by simp,by simp⟩,by simp[Rows.uptoBulk]⟩
 .simp only[if_true] at g;have e:(b.take len).length=len:=by rw[List.length_take];omega
  refine⟨some a,b.take len,i,by rw[e],⟨⟨by rw[MN];omega,λ t=>?_⟩,by rw[e];exact v,by rw[e];omega,λ s k=>n s (List.mem_of_mem_take k)⟩,by
   show _<=Rows.uptoBulk (bO (strs (b.take len)) (strs (b.drop len)));rw[Rows.uptoBulk];have:=zV (H:=H) (strs (b.take len));rw[show (strs (H:=H) (b.take len)).length=(b.take len).length by simp[strs]] at this;omega⟩
  rw[e] at t;have p:=m 0 (by omega);refine⟨a,rfl,by have:=block_lt_of_cell p;rwa [iw] at this,λ j u o=>?_⟩;obtain⟨r,rfl⟩:=Xz o;have d:j<b.length:=by rw[e] at r;omega
  rw[m j d,ce,bE d,List.getElem_take];rfl
theorem aa6 {a:Nat} {cs:List Value} {x:DataW H × List MemPlace} (h:bq enc Tryz.prog W 0 (λ _=>true) true a 95 cs=some x) :
  ∃ c f d y3 n,a=n+1/\x.1 = .agg [c.1,f.1,d.1,y3.1]/\cs.length=4/\bq enc Tryz.prog W 0 (λ _=>true) true n 3 ((cs.drop 0).take 1)=some c/\bq enc Tryz.prog W 0 (λ _=>true) true n 53 ((cs.drop 1).take 1)=some f/\bq enc Tryz.prog W 0 (λ _=>true) true n 4 ((cs.drop 2).take 1)=some d/\bq enc Tryz.prog W 0 (λ _=>true) true n 4 ((cs.drop 3).take 1)=some y3:=by
 obtain⟨xs,n,i,rfl,g,b,e⟩:=bt Tryz.underlying95 h
 match xs,b with
 | [c,f,d,y3],_=>exact⟨c,f,d,y3,n,i,rfl,g.trans (by kernel_rfl),xm (e 0 _ rfl) (by kernel_rfl),xm (e 1 _ rfl) (by kernel_rfl),xm (e 2 _ rfl) (by kernel_rfl),xm (e 3 _ rfl) (by kernel_rfl)⟩
theorem aa7 {a:Nat} {cs:List Value} {x:DataW H × List MemPlace} (h:bq enc Tryz.prog W 0 (λ _=>true) true a 92 cs=some x) :
  ∃ c y1 n,a=n+1/\x.1 = .agg [c.1,y1.1]/\cs.length=2/\bq enc Tryz.prog W 0 (λ _=>true) true n 9 ((cs.drop 0).take 1)=some c/\bq enc Tryz.prog W 0 (λ _=>true) true n 90 ((cs.drop 1).take 1)=some y1:=by
 obtain⟨xs,n,f,rfl,e,b,d⟩:=bt Tryz.underlying92 h
 match xs,b with
 | [c,y1],_=>exact⟨c,y1,n,f,rfl,e.trans (by kernel_rfl),xm (d 0 _ rfl) (by kernel_rfl),xm (d 1 _ rfl) (by kernel_rfl)⟩
theorem aa8 {a:Nat} {cs:List Value} {x:DataW H × List MemPlace} (h:bq enc Tryz.prog W 0 (λ _=>true) true a 144 cs=some x) :
  ∃ c d y2 n,a=n+1/\x.1 = .agg [c.1,d.1,y2.1]/\cs.length=10/\bq enc Tryz.prog W 0 (λ _=>true) true n 67 ((cs.drop 0).take 8)=some c/\bq enc Tryz.prog W 0 (λ _=>true) true n 4 ((cs.drop 8).take 1)=some d/\bq enc Tryz.prog W 0 (λ _=>true) true n 53 ((cs.drop 9).take 1)=some y2:=by
 obtain⟨xs,n,g,rfl,f,b,e⟩:=bt Tryz.underlying144 h
 match xs,b with
 | [c,d,y2],_=>exact⟨c,d,y2,n,g,rfl,f.trans (by kernel_rfl),xm (e 0 _ rfl) (by kernel_rfl),xm (e 1 _ rfl) (by kernel_rfl),xm (e 2 _ rfl) (by kernel_rfl)⟩
theorem aa9 {b:Nat} {cs:List Value} {x:DataW H × List MemPlace} (h:bq enc Tryz.prog W 0 (λ _=>true) true b 57 cs=some x) :
  ∃ g f l m e j i k d y9 n,b=n+1/\x.1 = .agg [g.1,f.1,l.1,m.1,e.1,j.1,i.1,k.1,d.1,y9.1]/\cs.length=10/\bq enc Tryz.prog W 0 (λ _=>true) true n 3 ((cs.drop 0).take 1)=some g/\bq enc Tryz.prog W 0 (λ _=>true) true n 3 ((cs.drop 1).take 1)=some f/\bq enc Tryz.prog W 0 (λ _=>true) true n 3 ((cs.drop 2).take 1)=some l/\bq enc Tryz.prog W 0 (λ _=>true) true n 3 ((cs.drop 3).take 1)=some m/\bq enc Tryz.prog W 0 (λ _=>true) true n 9 ((cs.drop 4).take 1)=some e/\bq enc Tryz.prog W 0 (λ _=>true) true n 52 ((cs.drop 5).take 1)=some j/\bq enc Tryz.prog W 0 (λ _=>true) true n 4 ((cs.drop 6).take 1)=some i/\bq enc Tryz.prog W 0 (λ _=>true) true n 54 ((cs.drop 7).take 1)=some k/\bq enc Tryz.prog W 0 (λ _=>true) true n 4 ((cs.drop 8).take 1)=some d/\bq enc Tryz.prog W 0 (λ _=>true) true n 55 ((cs.drop 9).take 1)=some y9:=by
 obtain⟨xs,n,o,rfl,p,c,a⟩:=bt Tryz.underlying57 h
 match xs,c with
 | [g,f,l,m,e,j,i,k,d,y9],_=>exact⟨g,f,l,m,e,j,i,k,d,y9,n,o,rfl,p.trans (by kernel_rfl),xm (a 0 _ rfl) (by kernel_rfl),xm (a 1 _ rfl) (by kernel_rfl),xm (a 2 _ rfl) (by kernel_rfl),xm (a 3 _ rfl) (by kernel_rfl),xm (a 4 _ rfl) (by kernel_rfl),xm (a 5 _ rfl) (by kernel_rfl),xm (a 6 _ rfl) (by kernel_rfl),xm (a 7 _ rfl) (by kernel_rfl),xm (a 8 _ rfl) (by kernel_rfl),xm (a 9 _ rfl) (by kernel_rfl)⟩
theorem aba {b:Nat} {cs:List Value} {x:DataW H × List MemPlace} (h:bq enc Tryz.prog W 0 (λ _=>true) true b 59 cs=some x) :
  ∃ g f l m e j i k d y9 n,b=n+1/\x.1 = .agg [g.1,f.1,l.1,m.1,e.1,j.1,i.1,k.1,d.1,y9.1]/\cs.length=19/\bq enc Tryz.prog W 0 (λ _=>true) true n 3 ((cs.drop 0).take 1)=some g/\bq enc Tryz.prog W 0 (λ _=>true) true n 9 ((cs.drop 1).take 1)=some f/\bq enc Tryz.prog W 0 (λ _=>true) true n 52 ((cs.drop 2).take 1)=some l/\bq enc Tryz.prog W 0 (λ _=>true) true n 53 ((cs.drop 3).take 1)=some m/\bq enc Tryz.prog W 0 (λ _=>true) true n 24 ((cs.drop 4).take 1)=some e/\bq enc Tryz.prog W 0 (λ _=>true) true n 4 ((cs.drop 5).take 1)=some j/\bq enc Tryz.prog W 0 (λ _=>true) true n 52 ((cs.drop 6).take 1)=some i/\bq enc Tryz.prog W 0 (λ _=>true) true n 9 ((cs.drop 7).take 1)=some k/\bq enc Tryz.prog W 0 (λ _=>true) true n 57 ((cs.drop 8).take 10)=some d/\bq enc Tryz.prog W 0 (λ _=>true) true n 52 ((cs.drop 18).take 1)=some y9:=by
 obtain⟨xs,n,o,rfl,p,c,a⟩:=bt Tryz.underlying59 h
 match xs,c with
 | [g,f,l,m,e,j,i,k,d,y9],_=>exact⟨g,f,l,m,e,j,i,k,d,y9,n,o,rfl,p.trans (by kernel_rfl),xm (a 0 _ rfl) (by kernel_rfl),xm (a 1 _ rfl) (by kernel_rfl),xm (a 2 _ rfl) (by kernel_rfl),xm (a 3 _ rfl) (by kernel_rfl),xm (a 4 _ rfl) (by kernel_rfl),xm (a 5 _ rfl) (by kernel_rfl),xm (a 6 _ rfl) (by kernel_rfl),xm (a 7 _ rfl) (by kernel_rfl),xm (a 8 _ rfl) (by kernel_rfl),xm (a 9 _ rfl) (by kernel_rfl)⟩
theorem abb {a:Nat} {cs:List Value} {x:DataW H × List MemPlace} (h:bq enc Tryz.prog W 0 (λ _=>true) true a 26 cs=some x) :
  ∃ d g e f y4 n,a=n+1/\x.1 = .agg [d.1,g.1,e.1,f.1,y4.1]/\cs.length=5/\bq enc Tryz.prog W 0 (λ _=>true) true n 9 ((cs.drop 0).take 1)=some d/\bq enc Tryz.prog W 0 (λ _=>true) true n 3 ((cs.drop 1).take 1)=some g/\bq enc Tryz.prog W 0 (λ _=>true) true n 22 ((cs.drop 2).take 1)=some e/\bq enc Tryz.prog W 0 (λ _=>true) true n 23 ((cs.drop 3).take 1)=some f/\bq enc Tryz.prog W 0 (λ _=>true) true n 24 ((cs.drop 4).take 1)=some y4:=by
 obtain⟨xs,n,j,rfl,i,c,b⟩:=bt Tryz.underlying26 h
 match xs,c with
 | [d,g,e,f,y4],_=>exact⟨d,g,e,f,y4,n,j,rfl,i.trans (by kernel_rfl),xm (b 0 _ rfl) (by kernel_rfl),xm (b 1 _ rfl) (by kernel_rfl),xm (b 2 _ rfl) (by kernel_rfl),xm (b 3 _ rfl) (by kernel_rfl),xm (b 4 _ rfl) (by kernel_rfl)⟩
theorem ad5 {e:Nat} {cs:List Value} {x:DataW H × List MemPlace} (h:bq enc Tryz.prog W 0 (λ _=>true) true e 65 cs=some x) :
  ∃ (v:Val) (A:Option Addr) (c:Nat),cs = [bj bk v.k,bj bk v.n,bm v.s,bn A v.l.length c]/\Reads W W.heap.size 1 A v.l.length (bK bk v.l)/\v.l.length<=maxLen/\v.s.size<=maxLen/\v.l.length+1<=Rows.uptoBulk x.1:=by
 obtain⟨B,z,D,E,n,-,j,w,u,r,p,t⟩:=ad3 h;obtain⟨a,b,c,d,rfl⟩:=list4 w;obtain⟨k,g⟩:=pW u;obtain⟨m,f⟩:=pW r;obtain⟨s,i,q⟩:=uw p;obtain⟨A,l,c',e3,y,-,o,C⟩:=PQ t;simp only[br,bv,bw,bx,bs,and_true] at g f i e3;subst g f i e3;refine⟨⟨k,m,s,l⟩,A,c',rfl,y,o,q,?_⟩;rw[j];simp only[Rows.uptoBulk,Rows.uptoBulkAll];show l.length+1<=_;omega
theorem vX:∀ (j:Nat) (cs:List Value) (x:DataW H × List MemPlace),bq enc Tryz.prog W 0 (λ _=>true) true j 67 cs=some x->∃ e:Ex,bC W W.heap.size e cs/\e.bl<=Rows.uptoBulk x.1:=by
 intro j
 induction j using cj with
 | _ j ih =>
  intro cs x h;obtain⟨Z,Y,y2,y3,X,n,S,J,U,T,P,N,R,K⟩:=ad4 h;obtain⟨a,b,c,d,e,f,g,i,rfl⟩:=aky U;obtain⟨k,F⟩:=pW T;obtain⟨op,D⟩:=pW P;obtain⟨s,G,O⟩:=uw N;obtain⟨v,A2,c2,e3,r,t,A,V⟩:=ad5 R;obtain⟨A',ar,c',C,Q,hc,l,-⟩:=dU (α:=Ex) (Pd:=λ w B e cs=>bC w B e cs) (μ:=Ex.bl) Tryz.underlying52 (show Tryz.prog.cellsOf 67=8 by kernel_rfl) (by decide) (λ m o y E L=>ih m (by omega) o y L) K;simp only[br,bv,bw,bx,bs,and_true] at F D G e3 C;obtain⟨z,u,p,q⟩:=e3;subst F D G z u p q C;obtain⟨E,o,M,I⟩:=Q;refine⟨.mk k op s v ar,bC.mk (e:=.mk k op s v ar) O A t E r M I,?_⟩;rw[aaA,J];simp only[Rows.uptoBulk,Rows.uptoBulkAll];show v.l.length+2+yD ar<=_;rw[Cc] at l;omega
theorem ag8 {a:Nat} {cs:List Value} {x:DataW H × List MemPlace} (h:bq enc Tryz.prog W 0 (λ _=>true) true a 95 cs=some x):∃ d:kN,uY W W.heap.size d cs/\0<=Rows.uptoBulk x.1:=by
 obtain⟨v,u,z,C,n,-,-,s,r,p,o,q⟩:=aa6 h;obtain⟨B,y,t,w,rfl⟩:=list4 s;obtain⟨k,f⟩:=pW r;obtain⟨A,l,c,e,i,m⟩:=Lp Tryz.underlying53 p;obtain⟨b,g⟩:=xk o;obtain⟨j,e3⟩:=xk q;simp only[br,bv,bw,bx,bs,and_true] at f e g e3;subst f e g e3;exact⟨⟨k,l,b,j⟩,⟨A,c,rfl,i⟩,bB _⟩
theorem ad6 {a:Nat} {cs:List Value} {x:DataW H × List MemPlace} (h:bq enc Tryz.prog W 0 (λ _=>true) true a 92 cs=some x):∃ d:aS,jI W W.heap.size d cs/\0<=Rows.uptoBulk x.1:=by
 obtain⟨q,p,n,-,-,o,k,i⟩:=aa7 h;obtain⟨t,r,rfl⟩:=aeQ o;obtain⟨s,e,g⟩:=uw k;obtain⟨A,l,c,b,j,m,-,-⟩:=dU (α:=kN) (Pd:=uY) (μ:=λ _=>0) Tryz.underlying90 (show Tryz.prog.cellsOf 95=4 by kernel_rfl) (by decide) (λ _ _ _ _ f=>ag8 f) i;simp only[br,bv,bw,bx,bs,and_true] at e b;subst e b;exact⟨⟨s,l⟩,⟨A,c,rfl,j,m,g⟩,bB _⟩
theorem ad7 {a:Nat} {cs:List Value} {x:DataW H × List MemPlace} (h:bq enc Tryz.prog W 0 (λ _=>true) true a 144 cs=some x):∃ d:dY,mG W W.heap.size d cs/\d.must.bl+d.ph.length+1<=Rows.uptoBulk x.1:=by
 obtain⟨v,t,E,n,-,k,r,q,p,o⟩:=aa8 h;obtain⟨F,D,s,z,y,u,B,G,C,w,rfl⟩:=aeR r;obtain⟨e,g,I⟩:=vX _ _ _ q;obtain⟨b,f⟩:=xk p;obtain⟨A,l,c,i,j,m⟩:=Lp Tryz.underlying53 o;simp only[br,bv,bw,bx,bs,and_true] at f i g;subst f i;refine⟨⟨e,b,l⟩,⟨_,A,c,rfl,g,j⟩,?_⟩;rw[k];simp only[Rows.uptoBulk,Rows.uptoBulkAll];show e.bl+l.length+1<=_;omega
theorem ag9 {c:Nat} {cs:List Value} {x:DataW H × List MemPlace} (h:bq enc Tryz.prog W 0 (λ _=>true) true c 57 cs=some x):∃ (a:lN) (A1:Option Addr) (c1:Nat) (A2:Option Addr) (c2:Nat) (A3:Option Addr) (c3:Nat),cs=XY a A1 c1 A2 c2 A3 c3/\qA W W.heap.size a A1 c1 A2 c2 A3 c3/\a.cu<=Rows.uptoBulk x.1:=by
 obtain⟨y0,y1,y2,y3,y4,y5,Z,y7,y8,y9,n,-,Q,F,D,J,U,X,w,z,v,P,O,K⟩:=aa9 h;obtain⟨a0,a1,a2,a3,a4,a5,a6,a7,a8,a9,rfl⟩:=aeR F;obtain⟨k,q⟩:=pW D;obtain⟨L,o⟩:=pW J;obtain⟨G,i⟩:=pW U;obtain⟨pl,e3⟩:=pW X;obtain⟨s,g,A⟩:=uw w;obtain⟨A5,j,c5,l,Y,M,s5,-⟩:=dU (α:=Ex) (Pd:=bC) (μ:=Ex.bl) Tryz.underlying52 (show Tryz.prog.cellsOf 67=8 by kernel_rfl) (by decide) (λ m e y _ d=>vX m e y d) z;rw[Cc] at s5;obtain⟨b,p⟩:=xk v;obtain⟨S,rs,B,t,C,R,u,b7⟩:=PQ P;obtain⟨I,e8⟩:=xk O;obtain⟨V,ch,E,f,N,T,s9,-⟩:=dU (α:=dY) (Pd:=mG) (μ:=λ r=>r.must.bl+r.ph.length+1) Tryz.underlying55 (show Tryz.prog.cellsOf 144=10 by kernel_rfl) (by decide) (λ _ _ _ _ d=>ad7 d) K;simp only[br,bv,bw,bx,bs,and_true] at q o i e3 g l p t e8 f;subst q o i e3 g l p t e8 f;refine⟨⟨k,L,G,pl,s,j,b,rs,I,ch⟩,A5,c5,S,B,V,E,rfl,⟨Y,C,N,M,R,T,u,A⟩,?_⟩;rw[Q];simp only[Rows.uptoBulk,Rows.uptoBulkAll];show yD j+rs.length+(ch.map (λ r=>r.must.bl+r.ph.length+1)).sum<=_;omega
theorem ad8:∀ (c:Nat) (cs:List Value) (x:DataW H × List MemPlace),bq enc Tryz.prog W 0 (λ _=>true) true c 59 cs=some x->∃ d:ItemD,dW W W.heap.size d cs/\d.cu<=Rows.uptoBulk x.1:=by
 intro c
 induction c using cj with
 | _ c ih =>
 intro cs x h;obtain⟨y0,y1,y2,y3,y4,y5,y6,y7,y8,y9,n,ab,hx,L,J,R,h2,h3,A,B,v,h7,h8,U⟩:=aba h;obtain⟨a0,a1,a2,a3,a4,a5,a6,a7,a8,a9,ac,N,F,Xi,Xj,Xk,w,C,Xl,rfl⟩:=akA L;obtain⟨k,s⟩:=pW J;obtain⟨nm,q,i⟩:=uw R;obtain⟨A2,iff,c2,o,D,z,s2,-⟩:=dU (α:=Ex) (Pd:=bC) (μ:=Ex.bl) Tryz.underlying52 (show Tryz.prog.cellsOf 67=8 by kernel_rfl) (by decide) (λ m a y _ e=>vX m a y e) h2;rw[Cc] at s2;obtain⟨A3,ph,c3,e3,Z,O⟩:=Lp Tryz.underlying53 h3;obtain⟨A4,f,c4,l,E,Y,s4,-⟩:=dU (α:=ItemD) (Pd:=dW) (μ:=ItemD.cu) Tryz.underlying24 (show Tryz.prog.cellsOf 59=19 by kernel_rfl) (by decide) (λ m a y hm e=>ih m (by omega) a y e) A;rw[Lj] at s4;obtain⟨b,p⟩:=xk B;obtain⟨A6,cnt,c6,r,G,k6,V,-⟩:=dU (α:=Ex) (Pd:=bC) (μ:=Ex.bl) Tryz.underlying52 (show Tryz.prog.cellsOf 67=8 by kernel_rfl) (by decide) (λ m a y _ e=>vX m a y e) v;rw[Cc] at V;obtain⟨t,u,g⟩:=uw h7;obtain⟨an,B1,b1,B2,b2,B3,b3,e8,hA,T⟩:=ag9 h8;obtain⟨A9,cmp,c9,j,L9,k9,K,-⟩:=dU (α:=Ex) (Pd:=bC) (μ:=Ex.bl) Tryz.underlying52 (show Tryz.prog.cellsOf 67=8 by kernel_rfl) (by decide) (λ m a y _ e=>vX m a y e) U;rw[Cc] at K;simp only[br,bv,bw,bx,bs,and_true] at s q o e3 l p r u e8 j;unfold XY at e8;simp only[bs,and_true] at e8;obtain⟨f0,Q,X,f3,f4,f5,I,M,S,f9⟩:=e8;subst s q o e3 l p r u j f0 Q X f3 f4 f5 I M S f9;obtain⟨m4,aa,r4,P⟩:=E;refine⟨.mk k nm iff ph f b cnt t an cmp,dW.mk (x:=.mk k nm iff ph f b cnt t an cmp) D Z G L9 hA z Y k6 k9 i g m4 r4 P,?_⟩;rw[hx];simp only[Rows.uptoBulk,Rows.uptoBulkAll];rw[ItemD.cu];omega
theorem acE {c:Nat} {cs:List Value} {x:DataW H × List MemPlace} (h:bq enc Tryz.prog W 0 (λ _=>true) true c 26 cs=some x) :
  ∃ (f:aI) (j d g:Option Addr) (e a i:Nat),cs = [bm f.nm,bj bk f.jo,bn j f.ag.length e,bn d f.lists.length a,bn g f.items.length i]/\f.nm.size<=maxLen/\kz W W.heap.size j e f.ag/\aF jI 2 W W.heap.size d f.lists/\f.lists.length<=a/\wI W W.heap.size g f.items/\f.items.length<=i/\Fp f.items<=Rows.uptoBulk x.1:=by
 obtain⟨N,M,R,T,L,n,-,w,J,I,D,C,E,z⟩:=abb h;obtain⟨S,Q,K,P,O,rfl⟩:=ao7 J;obtain⟨nm,q,l⟩:=uw I;obtain⟨v,p⟩:=pW D;obtain⟨j,s,e,r,u,-⟩:=Lp Tryz.underlying22 C;obtain⟨d,F,a,e3,B,G,-,-⟩:=dU (α:=aS) (Pd:=jI) (μ:=λ _=>0) Tryz.underlying23 (show Tryz.prog.cellsOf 92=2 by kernel_rfl) (by decide) (λ _ _ _ _ k=>ad6 k) E;obtain⟨g,b,i,o,A,t,s4,-⟩:=dU (α:=ItemD) (Pd:=dW) (μ:=ItemD.cu) Tryz.underlying24 (show Tryz.prog.cellsOf 59=19 by kernel_rfl) (by decide) (λ m a y _ k=>ad8 m a y k) z;rw[Lj] at s4;simp only[br,bv,bw,bx,bs,and_true] at q p r e3 o;subst q p r e3 o;refine⟨⟨nm,v,s,F,b⟩,j,d,g,e,a,i,rfl,l,u,B,G,A,t,?_⟩;rw[w];simp only[Rows.uptoBulk,Rows.uptoBulkAll];show Fp b<=_;omega
end
def abd (w:World) (B:Nat) (e:jO) (cs:List Value):Prop:=cs = [bm e.1,bm e.2]
theorem Ux {w:World} {B:Nat}:∀ (l:List jO) (xs:List Value),xs.length=l.length*2->(∀ i (h:i<l.length),abd w B l[i] ((xs.drop (i*2)).take 2))->xs=nY l
 | [],xs,hl,_=>List.eq_nil_of_length_eq_zero (by simpa using hl)
 | a :: r,xs,hl,h=>by
  match xs,hl with
  | [],hl=>simp at hl
  | [_],hl=>simp at hl;omega
  | x0 :: x1 :: xs,hl =>
   have b : [x0,x1] = [bm a.1,bm a.2]:=h 0 (by simp);injection b with e0 b;injection b with e1;have c:=Ux (w:=w) (B:=B) r xs (by simp only[b4] at hl;omega) λ i d=>by
    have:=h (i+1) (by simp;omega);rw[show (i+1)*2=i*2+1+1 by omega] at this;exact this
   rw[e0,e1,c];rfl
section
variable {H:Type} {enc:TypeId × Value->H} {W:World}
theorem YG {a:Nat} {cs:List Value} {x:DataW H × List MemPlace} (h:bq enc Tryz.prog W 0 (λ _=>true) true a 9 cs=some x):∃ s:ByteArray,cs = [.string s]/\s.size+1=Rows.uptoBulk x.1:=by
 obtain⟨s,e,b,c⟩:=cg Tryz.underlying9 h;refine⟨s,e,?_⟩;rw[b];simp[Rows.uptoBulk]
theorem abe {c:Nat} {cs:List Value} {x:DataW H × List MemPlace} (h:bq enc Tryz.prog W 0 (λ _=>true) true c 36 cs=some x):∃ e:jO,abd W W.heap.size e cs/\e.1.size+e.2.size<=Rows.uptoBulk x.1:=by
 obtain⟨xs,n,o,rfl,f,d,g⟩:=bt Tryz.underlying36 h
 match xs,d with
 | [y0,y1],_ =>
  have f:cs.length=2:=f.trans (by kernel_rfl);have l:bq enc Tryz.prog W 0 (λ _=>true) true n 9 ((cs.drop 0).take (Tryz.prog.cellsOf 9))=some y0:=g 0 _ rfl;have j:bq enc Tryz.prog W 0 (λ _=>true) true n 9 ((cs.drop 1).take (Tryz.prog.cellsOf 9))=some y1:=g 1 _ rfl;rw[show Tryz.prog.cellsOf 9=1 by kernel_rfl] at l j;obtain⟨a,b,rfl⟩:=aeQ f;obtain⟨s,k,m⟩:=YG l;obtain⟨t,i,b1⟩:=YG j;simp only[br,bv,bw,bx,bs,and_true] at k i;subst k i;refine⟨(s,t),rfl,?_⟩;simp only[Rows.uptoBulk,Rows.uptoBulkAll,bL,List.map_nil];show s.size+t.size<=_;omega
theorem QJ {b:Nat} {cs:List Value} {x:DataW H × List MemPlace} (h:bq enc Tryz.prog W 0 (λ _=>true) true b 27 cs=some x):∃ (A:Option Addr) (l:List jO) (c:Nat),cs = [.slice A l.length c]/\Reads W W.heap.size 2 A l.length (nY l)/\(∀ e∈l,e.1.size<=Rows.uptoBulk x.1/\e.2.size<=Rows.uptoBulk x.1)/\l.length+1<=Rows.uptoBulk x.1:=by
 obtain⟨A,l,c,e,o,-,t,s⟩:=dU (α:=jO) (Pd:=abd) (μ:=λ e=>e.1.size+e.2.size) Tryz.underlying27 (show Tryz.prog.cellsOf 36=2 by kernel_rfl) (by decide) (λ m p y _ i=>abe i) h;obtain⟨-,xs,d,f⟩:=o;obtain rfl:=Ux l xs d.1 f;refine⟨A,l,c,e,d,λ e g=>?_,by omega⟩;have j:(e.1.size+e.2.size)∈l.map (λ e=>e.1.size+e.2.size):=List.mem_map.2 ⟨e,g,rfl⟩;have k:∀ (l:List Nat) (n:Nat),n∈l->n<=l.sum:=by
  intro l
  induction l with
  | nil=>intro n h;cases h
  | cons a r ih =>
   intro n h;rw[bN];rcases bP.1 h with q | q
   .omega
   .have:=ih n q;omega
 have:=k _ _ j;omega
end
end
open Go.ChangeShapes Go.WideShapes Go.ChangeAt Go.RowKit Go.Joins
theorem own:ownKnob Tryz.prog.godebug=none:=by kernel_rfl
theorem laidOut:laidOutB Tryz.prog=true:=by kernel_rfl
theorem xO {H:Type} {enc:TypeId × Value->H} {P:Program} {W d:World} (f:laidOutB P=true) (g:DD W d) :
  ∀ {c:List TypeId} {vs:List Value} {ds:List (DataW H)} {ps:List MemPlace},(∀ t∈c,P.readableRec t=true/\t<P.types.size) ->
  ck enc P W 0 (λ _=>true) true c vs ds ps->(∀ x∈ps,x.block<W.heap.size)->ck enc P d 0 (λ b=>decide (b<W.heap.size)) true c vs ds ps
 | [],[],[],_,_,h,_=>h
 | _ :: _,_ :: _,_ :: _,_,hr,⟨p,q,h1,h2,e⟩,hs =>
  ⟨p,q,Below.trod f (hr _ (bP.2 (Or.inl rfl))).1 (hr _ (bP.2 (Or.inl rfl))).2 h1 g (λ x a=>hs x (by rw[e];exact cn _ a)),
   xO f g (λ t i=>hr t (bP.2 (Or.inr i))) h2 (λ x a=>hs x (by rw[e];exact List.mem_append_right _ a)),e⟩
 | [],[],_ :: _,_,_,h,_=>h.elim
 | [],_ :: _,_,_,_,h,_=>by cases h
 | _ :: _,[],_,_,_,h,_=>by cases h
 | _ :: _,_ :: _,[],_,_,h,_=>h.elim
theorem YJ {H:Type} {enc:TypeId × Value->H} {f:Func} {s:ChangeSpec} {W W':World} {args:Array Value} {ds b:List (DataW H)} {a:List MemPlace}
  (m:∀ t∈f.params.toList,Tryz.prog.readableRec t=true/\t<Tryz.prog.types.size) (g:f.resultTypes = #[4]) (j:s.vars = [])
  (o:(s.fn H (ds ++ b)).results = [.lit (.bool true)]) (n:(s.fn H (ds ++ b)).args=ds) (r:(s.fn H (ds ++ b)).vars = [])
  (e:DataW.Whole enc Tryz.prog f.params.toList s.vars false W args.toList ds b a) (i:DD W W'):s.post enc Tryz.prog f false true false false W args (.bool true) W':=by
 have d:=e.lt;have c:=e;obtain⟨p,q,k,u,rfl,_,_⟩:=e;refine⟨ds,b,p ++ q,[],p,[],c,?_,?_,?_,i.frame _,λ h=>by cases h⟩
 .rw[o,g];exact⟨[],[],shut_bool Tryz.underlying4 true,rfl,rfl⟩
 .rw[n];exact xO laidOut i m k (λ x l=>by simpa using d x (cn _ l))
 .rw[r,j];rfl
def PR:List (String × DataW Unit):=[("math/bits.deBruijn32tab",Rows.laid_math_bits_deBruijn32tab),("math/bits.deBruijn64tab",Rows.laid_math_bits_deBruijn64tab),("internal/strconv.uint64pow10",Rows.laid_internal_strconv_uint64pow10),("unicode/utf8.acceptRanges",Rows.laid_unicode_utf8_acceptRanges),("unicode/utf8.first",Rows.laid_unicode_utf8_first)]
theorem Xb:(PR.all λ x=>x.2.handleName?.isNone)=true:=by kernel_rfl
theorem abf:Tryz.prog.globalNamed "internal/strconv.uint64pow10" = some 2:=by kernel_rfl
theorem Xc:(Tryz.prog.globals[2]?).map (·.type)=some 292:=by kernel_rfl
theorem abg:Tryz.prog.cellsOf 292=20:=by kernel_rfl
theorem abh:Tryz.prog.cellsOf 249=1:=by kernel_rfl
theorem PS:(Rows.laid_internal_strconv_uint64pow10:DataW Unit)=Lib.tabData .u64 Lib.pow10Tab:=by kernel_rfl
theorem afn {W:World} (h:laidMetH Tryz.prog PR W):Tab W:=by
 rw[MakeChecks.laidMetH_plain _ _ _ Xb] at h;have a:=(laidMet.tail (laidMet.tail h));unfold Tab;rw[PS] at a;exact Lib.tabIs_of_head abf Xc Tryz.underlying292 Tryz.underlying249 abh abg a
theorem aiS {W:World} (h:W.ShapedOpen Tryz.prog):Mx W:=
 cell_of_shapedOpen_int (zero:=#[.int .i64 0]) (t:=3) h (by decide +kernel) (by kernel_rfl) rfl (by kernel_rfl) (by kernel_rfl) Tryz.underlying3
def abj:DataW Unit->List Value
 | .lit (.int k n)=>[.int k n]
 | _=>[]
def akB:DataW Unit->List Value
 | .agg l=>l.flatMap abj
 | d=>abj d
def flat3:DataW Unit->List Value
 | .agg l=>l.flatMap akB
 | d=>abj d
def vY (d:DataW Unit) (o:Obj):Obj:=match o with
 | .cells _ t frozen=>.cells (flat3 d).toArray t frozen
 | o=>o
noncomputable def laidWorld (os:Os):World:=
 { World.holding Tryz.prog os ⟨#[],#[],[]⟩ with heap:=((((((World.holding Tryz.prog os ⟨#[],#[],[]⟩).heap.modify 4 (vY Rows.laid_math_bits_deBruijn32tab)).modify 5 (vY Rows.laid_math_bits_deBruijn64tab)).modify 2 (vY Rows.laid_internal_strconv_uint64pow10)).modify 7 (vY Rows.laid_unicode_utf8_acceptRanges)).modify 6 (vY Rows.laid_unicode_utf8_first)) }
end Go.Proofs.YtcnagconagpkcaaGreatDoor
