/- Lemmas. -/
import Derived.Test.YtcnagconagpkcaaGreatDoorZ21
import Derived.Maps.AppendAt
set_option maxHeartbeats 4000000
set_option maxRecDepth 100000
open Go.Value renaming int->bN, string->bQ, slice->bR, pointer->bS, bool->b0, oneCell'->ce
open Go.IntKind renaming i64->bO
open Go.Obj renaming cells->bX
open Go.Ending renaming returned->b3
open Nat renaming le_refl->b4, le_trans->b7, zero_le->ca, not_lt_zero->cj
open List renaming length_append->b5, length_drop->b6, length_cons->cc, drop_eq_nil_of_le->cf, mem_cons->ch, nil_append->ci, drop_eq_getElem_cons->ck, length_tail->cl, mem_append->cn
open Option renaming map->cb
open Decidable renaming byContradiction->cg
namespace Go.Proofs.YtcnagconagpkcaaGreatDoor
open Go.RowKit Vtx
attribute [local go_sem ↓] Go.wp_at_zero Go.wp_at_succ
def ZP (w:World) (s:ByteArray) (r:yD) (e:Ending) (w':World):Prop:=match r with
 | .ok es []=>∃ x cs,es = [x]/\e = b3 (.tuple #[.agg cs.toArray,bN bO 0,bN bO 0])/\dD w' (λ b=>w.heap.size<=b) w'.heap.size x cs/\IY w w'
 | .ok _ (t :: _)=>e = b3 (.tuple #[.agg #[bN bO 0,bN bO 0,bQ ⟨#[]⟩,bN bO 0,bN bO 0,bQ ⟨#[]⟩,bR none 0 0,bR none 0 0],bN bO (t.at_:Nat),bN bO 10])/\IY w w'
 | .err k=>e = b3 (.tuple #[.agg #[bN bO 0,bN bO 0,bQ ⟨#[]⟩,bN bO 0,bN bO 0,bQ ⟨#[]⟩,bR none 0 0,bR none 0 0],bN bO (k:Nat),bN bO 10])/\IY w w'
theorem V6 (s:ByteArray) (w:World) (hs:s.size<=4000) (S:Tab w) (hm:Mx w):Calls Tryz.prog 232 #[bQ s] w λ e w'=>ZP w s (Pz s.data.toList.length .or [] (wordsOf s.data.toList 0)) e w':=by
 have bs:∀ (fn:Fn) (first an:Array Value) (w:World),(Instr.makeFunc fn first an).run Tryz.prog w = .ok (.func fn first an) w:=λ _ _ _ _=>rfl;have pK:=qh (And.intro S hm);obtain⟨r,hr⟩:=af (Pz s.data.toList.length .or [] (wordsOf s.data.toList 0));rw[hr];have HR:=qh hr;clear S hm hr
 go_enter_defers Tryz.func232,Tryz.ntmps232
 go_upto_region 3 with (fail);obtain⟨b1,ak⟩:=af (w.heap.size+1);rw[ak];obtain⟨b2,ar⟩:=af (b1+1);rw[ar];obtain⟨g,hg⟩:=af (b2+1);rw[hg];obtain⟨wa,L⟩:=aC (w.alloc (bX #[bN bO 0,bN bO 0,bQ ⟨#[]⟩,bN bO 0,bN bO 0,bQ ⟨#[]⟩,bR none 0 0,bR none 0 0] 67 (0,0)));obtain⟨wb,J⟩:=aC (wa.alloc (bX #[bN bO 0] 3 (0,0)));obtain⟨wc,K⟩:=aC (wb.alloc (bX #[bN bO 0] 28 (0,0)));obtain⟨W,hW⟩:=aC (wc.alloc (bX #[bQ s,bN bO 0,bQ ⟨#[]⟩,b0 false] 346 (0,0)));have aa:wa.heap.size=b1:=by rw[L,<- ak];simp
 have E:wb.heap.size=b2:=by rw[J,<- ar,<- aa];simp
 have av:wc.heap.size=g:=by rw[K,<- hg,<- E];simp
 have d:ZB wa w.heap.size:=by rw[L];exact ah.new w _ _
 have H:ah wb b1 3 #[bN bO 0]:=by rw[J,<- aa];exact ah.new wa _ _
 have Z:ah wc b2 28 #[bN bO 0]:=by rw[K,<- E];exact ah.new wb _ _
 have BG:ah W g 346 #[bQ s,bN bO ((0:Nat):Int),bQ ⟨#[]⟩,b0 false]:=by rw[hW,<- av];exact ah.new wc _ _
 have i:IY wa wb:=by rw[J];exact (Below.refl _ _).alloc (b4 _) _
 have l:IY wb wc:=by rw[K];exact (Below.refl _ _).alloc (b4 _) _
 have G:IY wc W:=by rw[hW];exact (Below.refl _ _).alloc (b4 _) _
 have ZQ:IY w wa:=by rw[L];exact (Below.refl _ _).alloc (b4 _) _
 have j:IY w W:=((ZQ.trans (i.mono ZQ.size)).trans (l.mono (b7 ZQ.size i.size))).trans (G.mono (b7 ZQ.size (b7 i.size l.size)));have al:=qh (((d.below i d.lt).below l (d.below i d.lt).lt).below G ((d.below i d.lt).below l (d.below i d.lt).lt).lt);have ab:=qh ((H.below l H.lt).below G (H.below l H.lt).lt);have ax:=qh (Z.below G Z.lt);have a2:=qh BG;have vM:=qh (show TM W g from ⟨w,pK.o.1,pK.o.2,by omega,j⟩);rw[<- L,<- J,<- K,<- hW];clear L J K hW d H Z BG i l G ZQ aa E av;have ZR:w.heap.size≠b1:=by omega
 have ZT:w.heap.size≠b2:=by omega
 have M:b1≠b2:=by omega
 have Ew:=qh (show Calls Tryz.prog 254 #[bS (some ⟨g,0,none⟩)] W λ e w'=>e = b3 (.tuple #[])/\aT w' g s 0/\Kp g W w' from ZO g s 0 ⟨#[]⟩ false W a2.o (ca _) hs);go_wp2_with (go_at_call 254;(with_reducible refine Ew.o.mono ?_);rintro e w1 ⟨rfl,ac,X⟩);have Nb:=qh ac;have MZ:=qh X;have HC:=afE s (wordsOf s.data.toList 0) g 0 w1 Nb.o (vM.o.kp X) rfl;rw[HR.o] at HC;refine HC.mono ?_;clear HC ac X Ew;cases r with
 | err k =>
  rintro e z ⟨rfl,N⟩;have A:=MZ.o.trans N;have m:=qh (show St z w.heap.size b1 b2 #[bN bO 0,bN bO 0,bQ ⟨#[]⟩,bN bO 0,bN bO 0,bQ ⟨#[]⟩,bR none 0 0,bR none 0 0] (bN bO 0) (bN bO 0) z from ⟨al.o.kp A (by omega),ab.o.kp A (by omega),ax.o.kp A (by omega),rfl,rfl,rfl,b4 _,λ _ _ _ _ _=>rfl⟩);have T:=qh (j.trans (A.below (by omega) j.size));go_wp2_with fail;refine leaves_cons (f:=253) (args:=#[bS (some ⟨w.heap.size,0,none⟩),bS (some ⟨b1,0,none⟩),bS (some ⟨b2,0,none⟩)]) (by simp) (by simp[go_sem]) ?_;refine (J3 z w.heap.size b1 b2 k ZR ZT M (bN bO 0) (bN bO 0) (bQ ⟨#[]⟩) (bN bO 0) (bN bO 0) (bQ ⟨#[]⟩) (bR none 0 0) (bR none 0 0) (bN bO 0) (bN bO 0) [] m.o).mono ?_;rintro e u' P ⟨rfl,rfl,a⟩;have bo:=qh a;have R:=a.c0;have O:=a.c1;have Q:=a.c2;obtain⟨gG,fZ,fV,gI,gJ,gK,gQ,fM⟩:=ah.c8 R;have D:P.cell? ⟨b1,0,none⟩=some (bN bO (k:Nat)):=O.cell 0;have F:P.cell? ⟨b2,0,none⟩=some (bN bO 10):=Q.cell 0;have Y:=qh (show IY w P from T.o.trans (show Below w.heap.size z P from ⟨a.os,a.tape,a.output,a.size,λ k' bl=>a.far k' (Nat.lt_of_lt_of_le bl T.o.size) (by omega) (by omega) (by omega)⟩));clear a R O Q;refine⟨.tuple #[.agg #[bN bO 0,bN bO 0,bQ ⟨#[]⟩,bN bO 0,bN bO 0,bQ ⟨#[]⟩,bR none 0 0,bR none 0 0],bN bO (k:Nat),bN bO 10],by simp[results,Tryz.results232,go_sem,gG,fZ,fV,gI,gJ,gK,gQ,fM,D,F],rfl,Y.o⟩
 | ok es l1 =>
  rintro e z ⟨x,V,bt,rfl,rfl,rfl,am,aw,N⟩;have UZ:=qh am;obtain⟨bi,a5,a4,E,bh,a9,ad⟩:=am;rename_i y o p u bB;clear bh a9 ad bi a5 a4 E;have ZM:(ai x y o p u).toArray = (BC x y o p x.ar.length u):=rfl;rw[ZM];clear ZM;have A:=MZ.o.trans N;have bg:=qh aw;have ae:=qh (al.o.kp A (by omega));have bd:=qh (ab.o.kp A (by omega));have bk:=qh (ax.o.kp A (by omega));have T:=qh (j.trans (A.below (by omega) j.size));have bn:w.heap.size<=W.heap.size:=j.size;have bm:W.heap.size<=w1.heap.size:=MZ.o.size;have bp:g<w1.heap.size:=Nb.o.b.lt;have B0:=ae.o;clear A aw N j;obtain⟨dO,kD,eH,kE,ik,oV,iq,oW,jK,yQ,jL,yR,jM,yS,jO,yT⟩:=ah.z8 B0;go_upto_region 5 with (fail);obtain⟨c,C⟩:=aC (kZ z w.heap.size (bN bO x.k) (bN bO x.op) (bQ x.nm) (bN bO x.v.k) (bN bO x.v.n) (bQ x.v.s) (bR y x.v.l.length o) (bR p x.ar.length u));have U:=qh (show aT c g s V by rw[C];exact bg.o.kp (fJ _ _ _ _ _ _ _ _ _ _ g (by omega)));have m:=qh (show St z w.heap.size b1 b2 (BC x y o p x.ar.length u) (bN bO 0) (bN bO 0) c by
   rw[C];exact St.set0 (show St z w.heap.size b1 b2 #[bN bO 0,bN bO 0,bQ ⟨#[]⟩,bN bO 0,bN bO 0,bQ ⟨#[]⟩,bR none 0 0,bR none 0 0] (bN bO 0) (bN bO 0) z from ⟨ae.o,bd.o,bk.o,rfl,rfl,rfl,b4 _,λ _ _ _ _ _=>rfl⟩) ZR ZT (bN bO x.k) (bN bO x.op) (bQ x.nm) (bN bO x.v.k) (bN bO x.v.n) (bQ x.v.s) (bR y x.v.l.length o) (bR p x.ar.length u))
  have a0:=qh (show dD c (λ b=>w1.heap.size<=b) c.heap.size x (ai x y o p u) by rw[C];exact EO UZ.o (λ k A=>by omega) _ _ _ _ _ _ _ _);dsimp only[kZ] at C;rw[<- C];clear C dO eH ik iq jK jL jM jO  B0;cases ht:dL s.data.toList V with
  | none =>
   have ay:=qJ ht;have a1:=qh ay;have bj:c.cell? ⟨g,2,none⟩=some (bQ ⟨#[]⟩):=by
    have h:=U.o.b.cell 2;rw[show aO s V = [] from by unfold aO;rw[ht]] at h;exact h
   have B0:=m.o.c0;have B1:=m.o.c1;have B2:=m.o.c2;obtain⟨kV,bv,aR,bL,a8,bw,bc,bE,aE,bq,aM,bK,be,bD,a7,br⟩:=ah.z8 B0;have bb:c.cell? ⟨b1,0,none⟩=some (bN bO 0):=B1.cell 0;have ba:c.frozen? ⟨b1,0,none⟩=false:=B1.frozen 0;have a6:c.cell? ⟨b2,0,none⟩=some (bN bO 0):=B2.cell 0;have a3:c.frozen? ⟨b2,0,none⟩=false:=B2.frozen 0;clear ht ay;go_wp2_with fail;refine leaves_cons (f:=253) (args:=#[bS (some ⟨w.heap.size,0,none⟩),bS (some ⟨b1,0,none⟩),bS (some ⟨b2,0,none⟩)]) (by simp) (by simp[go_sem]) ?_;refine (ZN _ _ _ _).mono ?_;rintro e u' P ⟨rfl,rfl,rfl⟩;obtain⟨W9,iE⟩:=aC (((kZ c w.heap.size (bN bO x.k) (bN bO x.op) (bQ x.nm) (bN bO x.v.k) (bN bO x.v.n) (bQ x.v.s) (bR y x.v.l.length o) (bR p x.ar.length u)).setCell ⟨b1,0,none⟩ (bN bO 0)).setCell ⟨b2,0,none⟩ (bN bO 0));have n:=qh (show St c w.heap.size b1 b2 (BC x y o p x.ar.length u) (bN bO 0) (bN bO 0) W9 by
    rw[iE];exact ((St.set0 (show St c w.heap.size b1 b2 (BC x y o p x.ar.length u) (bN bO 0) (bN bO 0) c from ⟨m.o.c0,m.o.c1,m.o.c2,rfl,rfl,rfl,b4 _,λ _ _ _ _ _=>rfl⟩) ZR ZT (bN bO x.k) (bN bO x.op) (bQ x.nm) (bN bO x.v.k) (bN bO x.v.n) (bQ x.v.s) (bR y x.v.l.length o) (bR p x.ar.length u)).set1 ZR M (bN bO 0)).set2 ZT M (bN bO 0))
   dsimp only[kZ] at iE;rw[<- iE];clear iE kV aR a8 bc aE aM be a7 bb ba a6 a3 B0 B1 B2;have R:=n.o.c0;have O:=n.o.c1;have Q:=n.o.c2;obtain⟨gG,fZ,fV,gI,gJ,gK,gQ,fM⟩:=ah.c8 R;have D:W9.cell? ⟨b1,0,none⟩=some (bN bO 0):=O.cell 0;have F:W9.cell? ⟨b2,0,none⟩=some (bN bO 0):=Q.cell 0;have ZU:w.heap.size<=z.heap.size:=T.o.size;have Hg:z.heap.size<=c.heap.size:=m.o.size;have aD:=qh ((T.o.trans (m.o.toBelow (B:=w.heap.size) ZU (b4 _) (by omega) (by omega))).trans (n.o.toBelow (B:=w.heap.size) (by omega) (b4 _) (by omega) (by omega)));have bf:=qh (((a0.o.keep (w':=W9) ⟨n.o.size,λ k A hl=>n.o.far k hl (by omega) (by omega) (by omega)⟩).up n.o.size).imp (q:=λ b=>w.heap.size<=b) (λ k A _=>by omega));clear R O Q;refine⟨.tuple #[.agg (BC x y o p x.ar.length u),bN bO 0,bN bO 0],by simp[results,Tryz.results232,go_sem,gG,fZ,fV,gI,gJ,gK,gQ,fM,D,F],?_⟩;show ZP w s (.ok [x] (wordsOf s.data.toList V)) _ _;rw[a1.o];exact⟨x,ai x y o p u,rfl,rfl,bf.o,aD.o⟩
  | some t =>
   obtain⟨ea,et,-⟩:=jV ht;have I:wordsOf s.data.toList V=t :: wordsOf s.data.toList (t.at_+t.tx.length):=by rw[iF,ht]
   have aW:=qh I;have bA:=qh ea;obtain⟨v,hv⟩:=af (tb t.tx);have bj:c.cell? ⟨g,2,none⟩=some (bQ v):=by
    have h:=U.o.b.cell 2;rw[et,hv] at h;exact h
   have bx:v.toList.isEmpty=false:=by
    have aq:=(gq ht).2.2.1;have ao:0<v.size:=by rw[<- hv,kY];exact aq
    cases h:v.toList.isEmpty with
    | false=>rfl
    | true =>
     have h1:v.toList = []:=List.isEmpty_iff.1 h;have h2:(v.toList == (⟨#[]⟩:ByteArray).toList)=true:=by rw[h1];simp
     have h3:(v.toList == (⟨#[]⟩:ByteArray).toList)=false:=dE (λ e=>by rw[e] at ao;exact absurd ao (by decide));rw[h3] at h2;cases h2
   have ap:=qh (iD g s V c U.o);rw[ea] at ap;have aL:=qh (show St c w.heap.size b1 b2 (BC x y o p x.ar.length u) (bN bO 0) (bN bO 0) c from ⟨m.o.c0,m.o.c1,m.o.c2,rfl,rfl,rfl,b4 _,λ _ _ _ _ _=>rfl⟩);clear ea et I hv ht;go_wp2_with (go_at_call 256;(with_reducible refine ap.o.mono ?_);rintro e w4 ⟨rfl,rfl⟩);refine leaves_cons (f:=253) (args:=#[bS (some ⟨w.heap.size,0,none⟩),bS (some ⟨b1,0,none⟩),bS (some ⟨b2,0,none⟩)]) (by simp) (by simp[go_sem]) ?_;refine (J3 c w.heap.size b1 b2 t.at_ ZR ZT M (bN bO x.k) (bN bO x.op) (bQ x.nm) (bN bO x.v.k) (bN bO x.v.n) (bQ x.v.s) (bR y x.v.l.length o) (bR p x.ar.length u) (bN bO 0) (bN bO 0) [] aL.o).mono ?_;rintro e u' P ⟨rfl,rfl,a⟩;have R:=a.c0;have O:=a.c1;have Q:=a.c2;obtain⟨gG,fZ,fV,gI,gJ,gK,gQ,fM⟩:=ah.c8 R;have D:P.cell? ⟨b1,0,none⟩=some (bN bO (t.at_:Nat)):=O.cell 0;have F:P.cell? ⟨b2,0,none⟩=some (bN bO 10):=Q.cell 0;have ZU:w.heap.size<=z.heap.size:=T.o.size;have Hg:z.heap.size<=c.heap.size:=m.o.size;have Y:=qh ((T.o.trans (m.o.toBelow (B:=w.heap.size) ZU (b4 _) (by omega) (by omega))).trans (a.toBelow (B:=w.heap.size) (by omega) (b4 _) (by omega) (by omega)));clear a R O Q;refine⟨.tuple #[.agg #[bN bO 0,bN bO 0,bQ ⟨#[]⟩,bN bO 0,bN bO 0,bQ ⟨#[]⟩,bR none 0 0,bR none 0 0],bN bO (t.at_:Nat),bN bO 10],by simp[results,Tryz.results232,go_sem,gG,fZ,fV,gI,gJ,gK,gQ,fM,D,F],?_⟩;show ZP w s (.ok [x] (wordsOf s.data.toList V)) _ _;rw[aW.o];exact⟨rfl,Y.o⟩
def adE (w:World) (p:Ex × Nat × Int) (e:Ending) (w':World):Prop:=
 ∃ A1 c1 A2 c2,e = b3 (.tuple #[.agg (ai p.1 A1 c1 A2 c2).toArray,bN bO (p.2.1:Nat),bN bO p.2.2])/\dD w' (λ b=>w.heap.size<=b) w'.heap.size p.1 (ai p.1 A1 c1 A2 c2)/\IY w w'
theorem MF (w:World) (p:Nat->Prop):dD w p w.heap.size (.mk 0 0 ⟨#[]⟩ jD []) (ai (.mk 0 0 ⟨#[]⟩ jD []) none 0 none 0):=
 dD.mk (e:=.mk 0 0 ⟨#[]⟩ jD []) (cs:=[]) (show 0<=maxLen from ca _) (show 0<=maxLen from ca _) (show 0<=maxLen from ca _) (show 0<=maxLen from ca _) ⟨Reads.none_,λ _ ad e=>by cases e⟩ ⟨Reads.none_,λ _ ad e=>by cases e⟩ (λ i a=>absurd a (by simp[Ex.ar]))
theorem vz {w w':World} {at_:Nat} {f:Int} (a:IY w w'):adE w (.mk 0 0 ⟨#[]⟩ jD [],at_,f) (b3 (.tuple #[.agg #[bN bO 0,bN bO 0,bQ ⟨#[]⟩,bN bO 0,bN bO 0,bQ ⟨#[]⟩,bR none 0 0,bR none 0 0],bN bO (at_:Nat),bN bO f])) w':=
 ⟨none,0,none,0,rfl,MF w' _,a⟩
theorem qL {w w':World} (h:IY w w') (d a b e i g c f:Value):IY w (kZ w' w.heap.size d a b e i g c f):=
 (((((((h.setCell (p:=⟨w.heap.size,0,none⟩) (b4 _) _).setCell (p:=⟨w.heap.size,1,none⟩) (b4 _) _).setCell (p:=⟨w.heap.size,2,none⟩) (b4 _) _).setCell (p:=⟨w.heap.size,3,none⟩) (b4 _) _).setCell (p:=⟨w.heap.size,4,none⟩) (b4 _) _).setCell (p:=⟨w.heap.size,5,none⟩) (b4 _) _).setCell (p:=⟨w.heap.size,6,none⟩) (b4 _) _).setCell (p:=⟨w.heap.size,7,none⟩) (b4 _) _
theorem J4 (s:List UInt8) (h:s.length<=4000):lY s=(match Pz s.length .or [] (wordsOf s 0) with
  | .err k=>(.mk 0 0 ⟨#[]⟩ jD [],k,10)
  | .ok _ (t :: _)=>(.mk 0 0 ⟨#[]⟩ jD [],t.at_,10)
  | .ok es []=>if dh (es.getD 0 (.mk 0 0 ⟨#[]⟩ jD []))≠0 then (.mk 0 0 ⟨#[]⟩ jD [],0,dh (es.getD 0 (.mk 0 0 ⟨#[]⟩ jD []))) else (es.getD 0 (.mk 0 0 ⟨#[]⟩ jD []),0,0)):=by
 unfold lY;rw[if_neg (by omega),Vw];obtain⟨r,a⟩:=af (Pz s.length .or [] (wordsOf s 0));rw[a];cases r with
 | err k=>rfl
 | ok es l=>cases l <;> rfl
theorem V7 (s:ByteArray) (w:World) (ao:s.size<=maxLen) (i:Tab w) (V:Mx w) (hp:s.size<=4000->∀ x,Pz s.data.toList.length .or [] (wordsOf s.data.toList 0) = .ok [x] []->x.parts<=100000000) :
  Calls Tryz.prog 209 #[bQ s] w λ e w'=>adE w (lY s.data.toList) e w':=by
 have pK:=qh (And.intro i V);clear i V;by_cases N:s.size<=4000
 .have n:=qh (J4 s.data.toList (by rw[aY];exact N));have P:=qh (hp N);obtain⟨R,Q⟩:=af (lY s.data.toList);rw[Q] at n ⊢;obtain⟨r,hr⟩:=af (Pz s.data.toList.length .or [] (wordsOf s.data.toList 0));have HC:=qh (λ W i V=>V6 s W N i V);rw[hr] at n HC P;have aa:¬ (4000:Int)<((s.size:Nat):Int):=by omega
  clear Q hr hp;go_enter Tryz.func209,Tryz.ntmps209;go_upto_region 1 with (fail);obtain⟨W,O,-,K,am,-,g⟩:=Y8 0 w;rw[<- O];clear O;go_wp2_with fail;refine (HC.o W (pK.o.1.below g) (pK.o.2.below g)).mono ?_;intro e L I;cases r with
  | err k =>
   obtain⟨rfl,d⟩:=I;have c:R=(.mk 0 0 ⟨#[]⟩ jD [],k,10):=n.o;have jB:=qh c;have z:=g.trans (d.mono g.size);have J:=K.o.below d K.o.lt;clear c d;go_upto_region 4 with (fail);obtain⟨W1,a⟩:=aC (L.alloc (bX #[bN bO 0,bN bO 0,bQ ⟨#[]⟩,bN bO 0,bN bO 0,bQ ⟨#[]⟩,bR none 0 0,bR none 0 0] 67 (0,0)));have j:IY w W1:=by rw[a];exact z.alloc z.size _
   have h:ZB W1 w.heap.size:=by rw[a];exact J.alloc _
   rw[<- a];clear a;obtain⟨E,U,y,S,u,oV,B,X,o,Y,A,T,G,Z,p,yT⟩:=ah.z8 h;go_wp2_with fail;refine bodyPost_ret (v:=.tuple #[.agg #[bN bO 0,bN bO 0,bQ ⟨#[]⟩,bN bO 0,bN bO 0,bQ ⟨#[]⟩,bR none 0 0,bR none 0 0],bN bO (k:Nat),bN bO 10]) (by simp[results,Tryz.results209,go_sem,E,y,u,B,o,A,G,p]) rfl ?_;rw[jB.o];exact vz (qL j _ _ _ _ _ _ _ _)
  | ok es l =>
   cases l with
   | cons t l =>
    obtain⟨rfl,d⟩:=I;have c:R=(.mk 0 0 ⟨#[]⟩ jD [],t.at_,10):=n.o;have jB:=qh c;have z:=g.trans (d.mono g.size);have J:=K.o.below d K.o.lt;clear c d;go_upto_region 4 with (fail);obtain⟨W1,a⟩:=aC (L.alloc (bX #[bN bO 0,bN bO 0,bQ ⟨#[]⟩,bN bO 0,bN bO 0,bQ ⟨#[]⟩,bR none 0 0,bR none 0 0] 67 (0,0)));have j:IY w W1:=by rw[a];exact z.alloc z.size _
    have h:ZB W1 w.heap.size:=by rw[a];exact J.alloc _
    rw[<- a];clear a;obtain⟨E,U,y,S,u,oV,B,X,o,Y,A,T,G,Z,p,yT⟩:=ah.z8 h;go_wp2_with fail;refine bodyPost_ret (v:=.tuple #[.agg #[bN bO 0,bN bO 0,bQ ⟨#[]⟩,bN bO 0,bN bO 0,bQ ⟨#[]⟩,bR none 0 0,bR none 0 0],bN bO (t.at_:Nat),bN bO 10]) (by simp[results,Tryz.results209,go_sem,E,y,u,B,o,A,G,p]) rfl ?_;rw[jB.o];exact vz (qL j _ _ _ _ _ _ _ _)
   | nil =>
    obtain⟨x,cs,rfl,rfl,hx,d⟩:=I;have ab:=P.o x rfl;have HX:=qh hx;obtain⟨hn,N,hl,ha,ak,ad,ac⟩:=hx;rename_i F q C D an;clear ak ad ac hn N hl ha;rw[show (ai x F q C D).toArray = (BC x F q C x.ar.length D) from rfl];have z:=g.trans (d.mono g.size);have BA:=qh (K.o.below d K.o.lt);have al:W.heap.size<=L.heap.size:=d.size;clear d;go_upto_region 4 with (fail);obtain⟨W1,a⟩:=aC (L.alloc (.cells (BC x F q C x.ar.length D) 67 (0,0)));have j:IY w W1:=by rw[a];exact z.alloc z.size _
    have Zr:=qh (show ZB W1 w.heap.size by rw[a];exact BA.o.alloc _);have xX:=qh (show ah W1 L.heap.size 67 (BC x F q C x.ar.length D) by rw[a];exact ah.new L _ _);have M:=qh (show dD W1 (λ b=>W.heap.size<=b) W1.heap.size x (ai x F q C D) by
     rw[a];exact (HX.o.keep (dN.of ((Below.refl _ _).alloc (b4 _) _))).up (by simp))
    rw[<- a];clear a z;have BX:=xX.o;obtain⟨gG,fZ,fV,gI,gJ,gK,gQ,fM⟩:=ah.c8 BX;go_wp2_with fail;refine (oI x W1.heap.size (ai x F q C D) W1 M.o.at_ (b4 _) ab).mono ?_;rintro e w2 ⟨rfl,m⟩;obtain⟨f,hf⟩:=af (dh x);have n:=qh (show R=if f≠0 then (.mk 0 0 ⟨#[]⟩ jD [],0,f) else (x,0,0) from by rw[n.o];show (if dh x≠0 then (((.mk 0 0 ⟨#[]⟩ jD []:Ex),0,dh x):Ex × Nat × Int) else (x,0,0))=_;rw[hf]);rw[hf];have H:=j.trans (m.mono j.size);have h:=Zr.o.below m Zr.o.lt;have ae:=xX.o.below m xX.o.lt;have UZ:=qh ((M.o.keep (dN.of m)).up m.size);clear hf m gG fZ fV gI gJ gK gQ fM BX;by_cases hf0:f=0
    .subst hf0;have c:R=(x,0,0):=by rw[n.o,if_neg (by decide)]
     obtain⟨gG,fZ,fV,gI,gJ,gK,gQ,fM⟩:=ah.c8 ae;obtain⟨E,U,y,S,u,oV,B,X,o,Y,A,T,G,Z,p,yT⟩:=ah.z8 h;go_wp2_with fail;refine bodyPost_ret (v:=.tuple #[.agg (BC x F q C x.ar.length D),bN bO 0,bN bO 0]) (by simp[results,Tryz.results209,go_sem,E,y,u,B,o,A,G,p]) rfl ?_;rw[c];exact⟨F,q,C,D,rfl,(EO (b:=w.heap.size) UZ.o (λ k hk=>by omega) (bN bO x.k) (bN bO x.op) (bQ x.nm) (bN bO x.v.k) (bN bO x.v.n) (bQ x.v.s) (bR F x.v.l.length q) (bR C x.ar.length D)).imp (λ k hk _=>by omega),qL H _ _ _ _ _ _ _ _⟩
    .have bf:(f == 0)=false:=by simp[hf0]
     have c:R=(.mk 0 0 ⟨#[]⟩ jD [],0,f):=by rw[n.o,if_pos hf0]
     obtain⟨E,U,y,S,u,oV,B,X,o,Y,A,T,G,Z,p,yT⟩:=ah.z8 h;go_wp2_with fail;refine bodyPost_ret (v:=.tuple #[.agg #[bN bO 0,bN bO 0,bQ ⟨#[]⟩,bN bO 0,bN bO 0,bQ ⟨#[]⟩,bR none 0 0,bR none 0 0],bN bO 0,bN bO f]) (by simp[results,Tryz.results209,go_sem,E,y,u,B,o,A,G,p]) rfl ?_;rw[c];exact vz (at_:=0) (qL H _ _ _ _ _ _ _ _)
 .have n:=qh (show lY s.data.toList=(.mk 0 0 ⟨#[]⟩ jD [],0,2) by unfold lY;rw[if_pos (by rw[aY];omega)]);have aa:(4000:Int)<((s.size:Nat):Int):=by omega
  obtain⟨R,Q⟩:=af (lY s.data.toList);rw[Q] at n ⊢;clear Q hp;go_enter Tryz.func209,Tryz.ntmps209;go_upto_region 1 with (fail);obtain⟨W,O,-,h,-,-,g⟩:=fB 0 w;rw[<- O];clear O;obtain⟨E,U,y,S,u,oV,B,X,o,Y,A,T,G,Z,p,yT⟩:=ah.z8 h;go_wp2_with fail;refine bodyPost_ret (v:=.tuple #[.agg #[bN bO 0,bN bO 0,bQ ⟨#[]⟩,bN bO 0,bN bO 0,bQ ⟨#[]⟩,bR none 0 0,bR none 0 0],bN bO 0,bN bO 2]) (by simp[results,Tryz.results209,go_sem,E,y,u,B,o,A,G,p]) rfl ?_;rw[n.o];exact vz (at_:=0) (qL g _ _ _ _ _ _ _ _)
end Go.Proofs.YtcnagconagpkcaaGreatDoor
namespace Go.Proofs.YtcnagconagpkcaaGreatDoor
open Go.RowKit
def zeroE:Ex:=.mk 0 0 ⟨#[]⟩ jD []
def Ec (w:World) (q:Nat->Prop) (p:Bool × Ex) (cs:List Value):Prop:=
 ∃ (t:ByteArray) (es:List Value),cs = [bQ t,b0 p.1] ++ es/\dD w q w.heap.size p.2 es
theorem Ec.keep {w w':World} {q a:Nat->Prop} {p:Bool × Ex} {cs:List Value} (h:Ec w q p cs) (b:dN q w w') (f:∀ k,q k->k<w.heap.size->a k):Ec w' a p cs:=by
 obtain⟨t,c,e,d⟩:=h;exact⟨t,c,e,((d.keep b).imp f).up b.1⟩
def apart (B:Nat) (v vp:Value) (b:Nat):Prop:=B<=b/\v.ownBlock≠some b/\vp.ownBlock≠some b
structure Iz (B:Nat) (w:World) (v:Value) (P:List (Bool × Ex)) (vp:Value) (acc:List UInt8):Prop where
 row:∃ cs,w.ownsRow B 266 10 v P.length cs/\∀ i (h:i<P.length),Ec w (apart B v vp) P[i] ((cs.drop (i*10)).take 10)
 pl:w.ownsRow B 5 1 vp acc.length (kz acc)
section
variable {w w':World} {B:Nat} {v v' vp vp':Value} {P:List (Bool × Ex)} {acc acc':List UInt8}
theorem Iz.nil:Iz B w (bR none 0 0) [] (bR none 0 0) []:=
 ⟨⟨[],World.ownsRow_nil _ _ _ _,λ i h=>by cases h⟩,World.ownsRow_nil _ _ _ _⟩
theorem Iz.later (h:Iz B w v P vp acc) (a:IY w w'):Iz B w' v P vp acc:=by
 obtain⟨⟨cs,b,c⟩,e⟩:=h;exact⟨⟨cs,dm b a,λ i f=>(c i f).keep (dN.of a) (λ _ d _=>d)⟩,dm e a⟩
theorem Iz.plain (h:Iz B w v P vp acc) (d:w.grownBy w' vp.ownBlock) (l:w'.ownsRow B 5 1 vp' acc'.length (kz acc')) (b:vp'.ownBlock=vp.ownBlock\/vp'.ownBlock=some w.heap.size):Iz B w' v P vp' acc':=by
 obtain⟨⟨cs,f,g⟩,j⟩:=h;refine⟨⟨cs,sN f j (by decide) d,λ i m=>(g i m).keep (dN.grown d (λ k a e=>a.2.2 e.symm)) (λ k a n=>⟨a.1,a.2.1,?_⟩)⟩,l⟩;rcases b with e | e
 .rw[e];exact a.2.2
 .rw[e];intro c;injection c with c;omega
theorem Iz.empty (h:Iz B w v P vp acc):Iz B w v P (bR none 0 0) []:=by
 obtain⟨⟨cs,b,c⟩,-⟩:=h;exact⟨⟨cs,b,λ i d=>(c i d).keep (dN.of (Below.refl _ _)) (λ k a _=>⟨a.1,a.2.1,by simp[Value.ownBlock]⟩)⟩,World.ownsRow_nil _ _ _ _⟩
theorem Iz.push (h:Iz B w v P vp acc) {Q:List (Bool × Ex)} {ds:List Value} {cs:List Value} (d:w.ownsRow B 266 10 v P.length cs) (g:∀ i (h:i<P.length),Ec w (apart B v vp) P[i] ((cs.drop (i*10)).take 10)) (o:ds.length=Q.length*10)
  (j:∀ i (h:i<Q.length),Ec w (apart B v vp) Q[i] ((ds.drop (i*10)).take 10)) (f:w.grownBy w' v.ownBlock) (m:w'.ownsRow B 266 10 v' (P.length+Q.length) (cs ++ ds)) (b:v'.ownBlock=v.ownBlock\/v'.ownBlock=some w.heap.size):Iz B w' v' (P ++ Q) vp acc:=by
 have n:cs.length=P.length*10:=d.1;have a:∀ {p:Bool × Ex} {xs:List Value},Ec w (apart B v vp) p xs->Ec w' (apart B v' vp) p xs:=λ l=>l.keep (dN.grown f (λ k a e=>a.2.1 e.symm)) (λ k a r=>⟨a.1,by
  rcases b with e | e
  .rw[e];exact a.2.1
  .rw[e];intro c;injection c with c;omega,a.2.2⟩)
 refine⟨⟨cs ++ ds,by rw[b5];exact m,λ i q=>?_⟩,sN h.pl d (by decide) f⟩;rw[b5] at q;by_cases hlt:i<P.length
 .rw[List.getElem_append_left hlt,List.drop_append_of_le_length (by omega),List.take_append_of_le_length (by rw[b6];omega)];exact a (g i hlt)
 .have e:(cs ++ ds).drop (i*10)=ds.drop ((i - P.length)*10):=by
   rw[List.drop_append,cf (by omega),ci,n,<- Nat.sub_mul]
  rw[List.getElem_append_right (by omega),e];exact a (j (i - P.length) (by omega))
end
def RZ (w:World) (B:Nat) (p:Bool × Ex) (cs:List Value):Prop:=∃ (t:ByteArray) (es:List Value),cs = [bQ t,b0 p.1] ++ es/\aZ w B p.2 es
theorem Iz.at_ {w:World} {B n c:Nat} {A:Option Addr} {P:List (Bool × Ex)} {vp:Value} {acc:List UInt8} (h:Iz B w (bR A n c) P vp acc) (p:P.length<=maxLen):aB RZ 10 w w.heap.size A P:=by
 obtain⟨⟨cs,a,b⟩,-⟩:=h;have l:n=P.length:=by
  rcases a.2 with ⟨m,g⟩ | ⟨r,k,j,f,-⟩
  .injection m with _ h4 _;rw[h4,g]
  .injection f with _ h4 _
 subst l;refine⟨p,cs,Reads.ig a,λ i q=>?_⟩;obtain⟨t,o,e,d⟩:=b i q;exact⟨t,o,e,d.at_⟩
def cZ (P:List (Bool × Ex)):List Ex:=(P.filter (λ p=>p.1)).map (λ p=>p.2)
theorem xN (P Q:List (Bool × Ex)):cZ (P ++ Q)=cZ P ++ cZ Q:=by unfold cZ;rw[List.filter_append,List.map_append]
end Go.Proofs.YtcnagconagpkcaaGreatDoor
namespace Go.Proofs.YtcnagconagpkcaaGreatDoor
theorem mW:∀ (f a:Nat) (r:List UInt8),r.length<f->r.length<a->rH f r=rH a r
 | 0,_,_,h,_=>absurd h (cj _)
 | _+1,0,_,_,h=>absurd h (cj _)
 | f+1,a+1,[],_,_=>by simp only[rH]
 | f+1,a+1,c :: r,h,h'=>by
  simp only[cc] at h h';have b:=mW f a r (by omega) (by omega);have d:=mW f a (r.drop 1) (by rw[b6];omega) (by rw[b6];omega);have e3:=λ k=>mW f a (r.drop (k+1)) (by rw[b6];omega) (by rw[b6];omega);simp only[rH,b,d,e3]
noncomputable def kS (r:List UInt8):Option (List Ex):=rH (r.length+1) r
theorem V8 (s:ByteArray):xh s=kS s.data.toList:=by
 unfold xh kS;exact mW _ _ _ (by simp) (by simp)
theorem PQ (c:UInt8) (r:List UInt8):kS (c :: r)=if c≠123/\c≠125 then kS r else if r.head?=some c then kS (r.drop 1) else if c=125 then none else
  match qC r false 0 with
  | none=>none
  | some k=>if (lY (r.take k)).2.2≠0 then none else (kS (r.drop (k+1))).map ((lY (r.take k)).1 :: ·):=by
 unfold kS;rw[cc,rH];have a:=mW (r.length+1) ((r.drop 1).length+1) (r.drop 1) (by rw[b6];omega) (by omega);have e3:=λ k=>mW (r.length+1) ((r.drop (k+1)).length+1) (r.drop (k+1)) (by rw[b6];omega) (by omega);simp only[a,e3];cases qC r false 0 <;> rfl
theorem Si {s:ByteArray} {j:Nat} (h:j<s.size):kS (s.data.toList.drop j)=if s[j]≠123/\s[j]≠125 then kS (s.data.toList.drop (j+1)) else if (s.data.toList.drop (j+1)).head?=some s[j] then kS (s.data.toList.drop (j+2)) else if s[j]=125 then none else
  match qC (s.data.toList.drop (j+1)) false 0 with
  | none=>none
  | some k=>if (lY ((s.data.toList.drop (j+1)).take k)).2.2≠0 then none else (kS (s.data.toList.drop (j+1+k+1))).map ((lY ((s.data.toList.drop (j+1)).take k)).1 :: ·):=by
 have a:j<s.data.toList.length:=by simpa using h
 rw[ck a,PQ];simp only[List.drop_drop];rfl
theorem V9 (s:ByteArray):kS (s.data.toList.drop s.size)=some []:=by
 rw[cf (by simp)];rfl
theorem EP:∀ (r:List UInt8) (q:Bool) (m k:Nat),qC r q m=some k->m<=k/\k<m+r.length
 | [],_,_,_,h=>by simp[qC] at h
 | c :: r,q,m,k,h=>by
  rw[qC] at h;simp only[cc];split at h
  .have:=EP r _ _ _ h;omega
  .split at h
   .have:=EP r _ _ _ h;omega
   .split at h
    .injection h with h;omega
    .split at h
     .cases h
     .have:=EP r _ _ _ h;omega
end Go.Proofs.YtcnagconagpkcaaGreatDoor
namespace Go.Proofs.YtcnagconagpkcaaGreatDoor
open Vtx Go.Lib
theorem mi:∀ a b:List Ex,aI (a ++ b)=aI a+aI b
 | [],b=>by rw[ci,aI];omega
 | x :: r,b=>by rw[List.cons_append,aI,aI,mi r b];omega
theorem dV (x:Ex):aI [x]=x.parts:=by rw[aI,aI];omega
theorem qM (o:Int) (l:List Ex):(kJ o l).parts=aI l+1:=parts_eq _
theorem vC (k o:Int) (nm:List UInt8) (l:List Ex):(iO k o nm l).parts=aI l+1:=parts_eq _
theorem Ed (v:Val):(lD v).parts=1:=by rw[parts_eq];show aI []+1=1;rw[aI]
theorem zO:aI []=0:=by rw[aI]
theorem Hz (o:Int) (l:List Ex):aI (DX o l)<=aI l+1:=by
 unfold DX;split
 .rw[dV];omega
 .rw[dV,qM];omega
theorem gz {r:yD} {k:List Ex->List Tok->yD} {c:List Ex} {l':List Tok} (h:r.bind k = .ok c l'):∃ a b,r = .ok a b/\k a b = .ok c l':=by
 cases r with
 | err p=>cases h
 | ok a b=>exact⟨a,b,rfl,h⟩
theorem BB {l:List Tok} {w:List UInt8} (h:ni l w=true):l.tail.length+1=l.length:=by
 cases l with
 | nil=>cases h
 | cons t r=>rfl
theorem tJ {n:Nat} {w:List UInt8} {l:List Tok} {k:List Tok->yD} {a:List Ex} {l':List Tok} (h:dR n w l k = .ok a l'):l.tail.length+1=l.length/\k l.tail = .ok a l':=by
 unfold dR at h;split at h
 .rename_i b;exact⟨BB b,h⟩
 .cases h
theorem H9 {a b:Int} {l:List Tok} (h:iy a b l≠0):l.tail.length+1=l.length:=by
 cases l with
 | nil=>exact absurd rfl (G9 h)
 | cons t r=>rfl
def rV:NT->Nat
 | .or=>2
 | .args _=>2
 | .and=>3
 | .UU=>0
 | .CV=>0
 | .Eo=>0
 | .jT=>0
 | .qA _=>0
 | _=>4
def rW (nt:NT) (acc:List Ex):Nat:=match nt with
 | .UU=>aI acc+1
 | .CV=>aI acc+1
 | .Eo=>aI acc
 | .jT=>aI acc
 | .qA _=>aI acc
 | _=>0
theorem Ua (n:Nat):∀ (f:Nat) (p:NT) (acc:List Ex) (l:List Tok) (x:List Ex) (y:List Tok),P n f p acc l = .ok x y->aI x+rV p+6*y.length<=rW p acc+6*l.length
 | 0,_,_,_,_,_,h=>by cases h
 | f+1,p,acc,l,x,y,h=>by
  have d:=Ua n f;rw[P] at h;cases p <;> dsimp only[iP] at h <;> dsimp only[rV,rW]
  case or =>
   obtain⟨i,j,b,a⟩:=gz h;have c:=d _ _ _ _ _ b;have e:=d _ _ _ _ _ a;dsimp only[rV,rW] at c e;omega
  case UU =>
   split at h
   .rename_i o;have m:=BB o;obtain⟨i,j,b,a⟩:=gz h;have c:=d _ _ _ _ _ b;have e:=d _ _ _ _ _ a;dsimp only[rV,rW] at c e;rw[mi] at e;omega
   .injection h with b a;have:=Hz 3 acc;rw[<- b,<- a];omega
  case and =>
   obtain⟨i,j,b,a⟩:=gz h;have c:=d _ _ _ _ _ b;have e:=d _ _ _ _ _ a;dsimp only[rV,rW] at c e;omega
  case CV =>
   split at h
   .rename_i o;have m:=BB o;obtain⟨i,j,b,a⟩:=gz h;have c:=d _ _ _ _ _ b;have e:=d _ _ _ _ _ a;dsimp only[rV,rW] at c e;rw[mi] at e;omega
   .injection h with b a;have:=Hz 2 acc;rw[<- b,<- a];omega
  case not =>
   split at h
   .rename_i o;have m:=BB o;obtain⟨i,j,b,a⟩:=gz h;have c:=d _ _ _ _ _ b;dsimp only[rV,rW] at c;injection a with a g;rw[<- a,<- g,dV,qM];omega
   .obtain⟨i,j,b,a⟩:=gz h;have c:=d _ _ _ _ _ b;dsimp only[rV,rW] at c;split at a
    .injection a with a g;rw[<- a,<- g];omega
    .rename_i s;have m:=H9 s;obtain⟨B,C,g,q⟩:=gz a;have e:=d _ _ _ _ _ g;dsimp only[rV,rW] at e;injection q with q k;rw[<- q,<- k,dV,qM,mi];omega
  case sum =>
   obtain⟨i,j,b,a⟩:=gz h;have c:=d _ _ _ _ _ b;have e:=d _ _ _ _ _ a;dsimp only[rV,rW] at c e;omega
  case Eo =>
   split at h
   .injection h with b a;rw[<- b,<- a];omega
   .rename_i s;have m:=H9 s;obtain⟨i,j,b,a⟩:=gz h;have c:=d _ _ _ _ _ b;have e:=d _ _ _ _ _ a;dsimp only[rV,rW] at c e;rw[dV,qM,mi] at e;omega
  case product =>
   obtain⟨i,j,b,a⟩:=gz h;have c:=d _ _ _ _ _ b;have e:=d _ _ _ _ _ a;dsimp only[rV,rW] at c e;omega
  case jT =>
   split at h
   .injection h with b a;rw[<- b,<- a];omega
   .rename_i s;have m:=H9 s;obtain⟨i,j,b,a⟩:=gz h;have c:=d _ _ _ _ _ b;have e:=d _ _ _ _ _ a;dsimp only[rV,rW] at c e;rw[dV,qM,mi] at e;omega
  case minus =>
   split at h
   .rename_i o;have m:=BB o;split at h
    .split at h
     .split at h
      .injection h with b a;rw[<- b,<- a,dV,Ed];simp only[cc];omega
      .cases h
     .cases h
    .obtain⟨i,j,b,a⟩:=gz h;have c:=d _ _ _ _ _ b;dsimp only[rV,rW] at c;injection a with a g;rw[<- a,<- g,dV,qM];omega
   .have c:=d _ _ _ _ _ h;dsimp only[rV,rW] at c;omega
  case cO =>
   split at h
   .cases h
   .rename_i t r;rw[cc];split at h
    .cases h
    split at h
    .split at h
     .injection h with b a;rw[<- b,<- a,dV,Ed];omega
     .cases h
    split at h
    .obtain⟨i,j,b,a⟩:=gz h;have c:=d _ _ _ _ _ b;dsimp only[rV,rW] at c;obtain⟨m,g⟩:=tJ a;injection g with g q;rw[<- g,<- q];omega
    split at h
    .cases h
    split at h
    .injection h with b a;rw[<- b,<- a,dV,vC,zO];omega
    rename_i w;have z:r.tail.length+1=r.length:=by
     cases r with
     | nil=>exact absurd rfl w
     | cons u r'=>rfl
    split at h
    .split at h
     .cases h
     .obtain⟨m,g⟩:=tJ h;obtain⟨i,j,b,a⟩:=gz g;have c:=d _ _ _ _ _ b;dsimp only[rV,rW] at c;obtain⟨v,k⟩:=tJ a;injection k with k h6;rw[<- k,<- h6,dV,vC];have A:r.tail.tail.length<=r.tail.length:=by rw[cl];omega
      omega
    split at h
    .obtain⟨i,j,b,a⟩:=gz h;have c:=d _ _ _ _ _ b;dsimp only[rV,rW] at c;obtain⟨v,k⟩:=tJ a;injection k with k h6;rw[<- k,<- h6,dV,qM];omega
    split at h
    .split at h
     .cases h
     .obtain⟨m,g⟩:=tJ h;injection g with k h6;rw[<- k,<- h6,dV,vC,zO];have A:r.tail.tail.length<=r.tail.length:=by rw[cl];omega
      omega
    .injection h with b a;rw[<- b,<- a,dV,vC,zO];omega
  case args =>
   obtain⟨i,j,b,a⟩:=gz h;have c:=d _ _ _ _ _ b;have e:=d _ _ _ _ _ a;dsimp only[rV,rW] at c e;omega
  case qA =>
   split at h
   .obtain⟨m,g⟩:=tJ h;obtain⟨i,j,b,a⟩:=gz g;have c:=d _ _ _ _ _ b;have e:=d _ _ _ _ _ a;dsimp only[rV,rW] at c e;rw[mi] at e;omega
   .injection h with b a;rw[<- b,<- a];omega
theorem Sj {s:List UInt8} (d:s.length<=4000) {x:Ex} (h:Pz s.length .or [] (wordsOf s 0) = .ok [x] []):x.parts<=100000:=by
 have a:=Ua _ _ _ _ _ _ _ h;have b:=yf s (s.length+1) 0;have c:(toks s (s.length+1) 0).length=(wordsOf s 0).length:=rfl;rw[dV] at a;dsimp only[rV,rW] at a;rw[c] at b;simp at a;omega
end Go.Proofs.YtcnagconagpkcaaGreatDoor
namespace Go.Proofs.YtcnagconagpkcaaGreatDoor
open Go.RowKit
attribute [local go_sem ↓] Go.wp_at_zero Go.wp_at_succ
attribute [local go_sem ↓] ld_item st_item ld_node st_node ld_ans st_ans ld_part st_part ld_rule st_rule ld_form st_form
set_option maxHeartbeats 4000000
set_option maxRecDepth 100000
def afG (R:Option (List Ex)) (e:Ending) (w':World):Prop:=match R with
 | none=>e = b3 (.tuple #[bR none 0 0,b0 false])
 | some es=>∃ A P c,e = b3 (.tuple #[bR A P.length c,b0 true])/\aB RZ 10 w' w'.heap.size A P/\cZ P=es/\∀ p∈P,p.2.parts<=300
theorem ZW:(Tryz.prog.info? 266).map (λ i=>(i.zero,i.size,i.bytes))=some (some (.agg #[.string ⟨#[]⟩,.bool false,.int .i64 0,.int .i64 0,.string ⟨#[]⟩,.int .i64 0,.int .i64 0,.string ⟨#[]⟩,.slice none 0 0,.slice none 0 0]),10,136):=by kernel_rfl
theorem Ia {w:World} {B c:Nat} {A:Option Addr} {acc:List UInt8} (g:w.ownsRow B 5 1 (bR A acc.length c) acc.length (kz acc)):(convert 218 9 (bR A acc.length c)).run Tryz.prog w = .ok (bQ (tb acc)) w:=by
 rcases g.2 with ⟨o,h⟩ | ⟨d,m,l,k,p,q,e3⟩
 .injection o with a hl hc;subst a;have n:acc = []:=List.length_eq_zero_iff.1 hl;subst n;exact run_convert_bytes_nil w 218 5 Tryz.underlying218 Tryz.underlying5 _ _ _ Tryz.underlying9
 .injection k with a hl hc;subst a;have h:=run_convert_bytes_arg (P:=Tryz.prog) w 218 5 Tryz.underlying218 Tryz.underlying5 d 0 acc.length c (acc.map (λ x=>(x.toNat:Int))) (by simp) (λ j i=>by
   obtain⟨ad,a,-,b⟩:=(Reads.ig g).2 (by omega);injection a with a;subst a;have f:=b j (.int .u8 ((acc.map (λ x=>(x.toNat:Int))).getD j 0)) (by unfold kz;simp[List.getD,i]);have e:(⟨d,0,none⟩:Addr).add j=⟨d,0+j,none⟩:=by unfold Addr.add;split <;> simp_all
   rw[e] at f;exact f) _ Tryz.underlying9
  rw[h];congr 2;unfold tb;refine ByteArray.ext (Array.toList_inj.1 ?_);rw[strOfNums_data,List.map_map]
  conv=>rhs;rw[<- List.map_id acc]
  refine List.map_congr_left (λ x _=>?_);simp
theorem PR {l:List UInt8} (c:l.length<=4000) {X:Ex} {a:Nat} (h:lY l=(X,a,0)):X.parts<=300:=by
 rw[J4 l c] at h;split at h
 .cases h
 .cases h
 .split at h
  .rename_i b;injection h with h2 h3;injection h3 with h4 h5;exact absurd h5 b
  .rename_i b;injection h with h2 h3;subst h2;exact (OX (Decidable.not_not.1 b)).2
def aiD (i:Nat):Option Nat->Int
 | some k=>(i+k:Nat)
 | none=>-1
theorem acL {s:ByteArray} {j:Nat} (h:j+1<s.size):(s.data.toList.drop (j+1)).head?=some s[j+1]:=by
 have a:j+1<s.data.toList.length:=by simpa using h
 rw[ck a];rfl
theorem acM {s:ByteArray} {j:Nat} (h:¬ j+1<s.size):(s.data.toList.drop (j+1)).head?=none:=by
 rw[cf (by simp;omega)];rfl
theorem We (s:ByteArray) (w:World) (hs:s.size<=4000) (T:Tab w) (ax:Mx w) :
  Calls Tryz.prog 168 #[bQ s] w λ e w'=>afG (xh s) e w'/\IY w w':=by
 obtain⟨i0,al,aD,aE,an⟩:=info_parts ZI;obtain⟨j0,a0,ap,ak,ar⟩:=info_parts ZW;have pK:=qh (λ w' (l:IY w w')=>And.intro (aA T l) (ax.below l));obtain⟨R,hR⟩:=af (xh s);have HR:=qh (hR.symm.trans (V8 s));rw[hR];clear hR T ax;go_enter Tryz.func168,Tryz.ntmps168;go_wp2;go_loopw [6,4,5] (λ i v vp wr=>∃ (j:Nat) (P:List (Bool × Ex)) (acc:List UInt8),i = bN bO j/\j<=s.size/\Hid (Iz w.heap.size wr v P vp acc)/\Hid (R=(kS (s.data.toList.drop j)).map (cZ P ++ ·))/\IY w wr/\acc.length<=j/\P.length<=2*j/\Hid (∀ p∈P,p.2.parts<=300)) (λ i _ _ _=>s.size+1 - (intOf i).toNat)
 case atStart=>exact⟨0,[],[],rfl,ca _,qh Iz.nil,qh (by rw[List.drop_zero,HR.o];cases kS s.data.toList <;> rfl),Below.refl _ _,b4 _,b4 _,qh (λ p hp=>by cases hp)⟩
 case round =>
  obtain⟨j,P,acc,rfl,hj,D,S,l,a8,hP,JA⟩:=hrel;have m:=l.size;obtain⟨Ap,cp,rfl⟩:=iU D.o.pl;obtain⟨aM,aa,aq⟩:=D.o.row;obtain⟨Ao,co,rfl⟩:=iU aa;have B:=qh (And.intro aa aq);clear aa aq;by_cases hlt:j<s.size
  .have S:=qh (S.o.trans (congrArg (cb (cZ P ++ ·)) (Si hlt)));obtain⟨c,hc⟩:=af (s[j]);rw[hc] at S;have aW:=qh hlt;have G:=qh (And.intro (@acL s j) (@acM s j));have i1:IntKind.i64.wrap ((j:Int)+1)=((j+1:Nat):Int):=IntWalk.i64_in _ (by omega);by_cases hA:c≠123/\c≠125
   .have S:=qh (S.o.trans (congrArg (cb (cZ P ++ ·)) (if_pos hA)));obtain⟨g1,L⟩:=fU (byF (n:=123) rfl hA.1);obtain⟨g2,ab⟩:=fU (byF (n:=125) rfl hA.2);clear hA;have u:=qh S.o;have A:=D.o.pl.alloc (bX #[.int .u8 (c.toNat:Nat)] 5 (0,0));by_cases h1:j+1<s.size
    case' neg =>
     have t:¬ (j:Int)+1<(s.size:Nat):=by omega
    case' pos =>
     have t:(j:Int)+1<(s.size:Nat):=by omega
     obtain⟨o,C⟩:=af (s[j+1]);obtain⟨b9,eP⟩:=af (((o.toNat:Int) == (c.toNat:Int)))
    all_goals
     go_wp2_with (at_builtin;refine wpList_append_own_at _ rfl _ _ 218 rfl w.heap.size 5 i0 (.int .u8 0) 1 1 Tryz.underlying218 al aD aE an rfl (by decide) _ acc.length (kz acc) rfl A ⟨wr.heap.size,0,none⟩ 1 1 [.int .u8 (c.toNat:Nat)] rfl rfl (cell_one_new _ _ _) (by simp[ce]) (by unfold maxLen;omega) (by omega) (by have:=l.size;simp;omega) ?_;intro v4 w4 a f _ Z);have r:=az wr (.cells #[.int .u8 (c.toNat:Nat)] 5 (0,0));have q:IY w w4:=(l.trans (r.mono m)).grown f (by simp;omega) (λ g hg=>(A.lt g hg).1);have Af:=qh (show Iz w.heap.size w4 (.slice Ao P.length co) P v4 (acc ++ [c]) from (D.o.later r).plain f (by rw[b5];simpa [kz] using a) Z);go_roundw
     case rel=>exact⟨j+1,P,acc ++ [c],by go_num,by omega,Af,u,q,by rw[b5];simp;omega,by omega,JA⟩
     case measure =>
      have:=aW.o
      first | (simp[intOf];done) | (simp[intOf];omega)
   have ao:=qh (S.o.trans (congrArg (cb (cZ P ++ ·)) (if_neg hA)));by_cases hd:(s.data.toList.drop (j+1)).head?=some c
   .have u:=qh (ao.o.trans (congrArg (cb (cZ P ++ ·)) (if_pos hd)));have h1:j+1<s.size:=cg λ h=>by rw[G.o.2 h] at hd;cases hd
    have C:s[j+1]=c:=Option.some.inj ((G.o.1 h1).symm.trans hd);have t:(j:Int)+1<(s.size:Nat):=by omega
    have A:=D.o.pl.alloc (bX #[.int .u8 (c.toNat:Nat)] 5 (0,0));have ay:((c.toNat:Int) == (c.toNat:Int))=true:=by simp
    clear hd;by_cases O:c=123
    case' pos =>
     obtain⟨g1,L⟩:=jk (byT (n:=123) rfl O)
    case' neg =>
     obtain⟨g1,L⟩:=fU (byF (n:=123) rfl O);obtain⟨g2,ab⟩:=jk (byT (n:=125) (c:=c) (d:=125) rfl (cg λ h=>hA ⟨O,h⟩))
    all_goals clear O hA
    all_goals
     go_wp2_with (at_builtin;refine wpList_append_own_at _ rfl _ _ 218 rfl w.heap.size 5 i0 (.int .u8 0) 1 1 Tryz.underlying218 al aD aE an rfl (by decide) _ acc.length (kz acc) rfl A ⟨wr.heap.size,0,none⟩ 1 1 [.int .u8 (c.toNat:Nat)] rfl rfl (cell_one_new _ _ _) (by simp[ce]) (by unfold maxLen;omega) (by omega) (by have:=l.size;simp;omega) ?_;intro v4 w4 a f _ Z);have r:=az wr (.cells #[.int .u8 (c.toNat:Nat)] 5 (0,0));have q:IY w w4:=(l.trans (r.mono m)).grown f (by simp;omega) (λ g hg=>(A.lt g hg).1);have Af:=qh (show Iz w.heap.size w4 (.slice Ao P.length co) P v4 (acc ++ [c]) from (D.o.later r).plain f (by rw[b5];simpa [kz] using a) Z);go_roundw
     case rel=>exact⟨j+2,P,acc ++ [c],by go_num,by omega,Af,u,q,by rw[b5];simp;omega,by omega,JA⟩
     case measure =>
      have:=aW.o
      first | (simp[intOf];done) | (simp[intOf];omega)
   have aR:=qh (ao.o.trans (congrArg (cb (cZ P ++ ·)) (if_neg hd)));by_cases Bg:c=125
   .have u:=qh (show R=none from aR.o.trans (by rw[if_pos Bg];rfl));obtain⟨g1,L⟩:=fU (show ¬ (c.toNat:Int)=123 by rw[Bg];decide);obtain⟨g2,ab⟩:=jk (byT (n:=125) rfl Bg);by_cases h1:j+1<s.size
    case' neg =>
     have t:¬ (j:Int)+1<(s.size:Nat):=by omega
    case' pos =>
     have t:(j:Int)+1<(s.size:Nat):=by omega
     obtain⟨o,C⟩:=af (s[j+1]);have ay:((o.toNat:Int) == (c.toNat:Int))=false:=beq_eq_false_iff_ne.2 (λ e=>hd ((G.o.1 h1).trans (by rw[C];exact congrArg some (UInt8.toNat_inj.1 (by omega)))))
    all_goals
     clear Bg hA hd;go_wp2;go_ret2;exact⟨by rw[u.o];rfl,l⟩
   have H:=qh (show R=_ from aR.o.trans (congrArg (cb (cZ P ++ ·)) (if_neg Bg)));have O:c=123:=cg λ h=>hA ⟨h,Bg⟩;obtain⟨g1,L⟩:=jk (byT (n:=123) rfl O);obtain⟨g2,ab⟩:=fU (show ¬ (c.toNat:Int)=125 by rw[O];decide);obtain⟨E,hE⟩:=af (qC (s.data.toList.drop (j+1)) false 0);have U:=qh (show Vu s (j+1)=aiD (j+1) E by rw[<- hE];unfold Vu aiD;cases qC (s.data.toList.drop (j+1)) false 0 <;> rfl);rw[hE] at H;have av:=qh hE;obtain⟨p9,ac⟩:=af (Vu s (j+1));have KE:=qh (show ∀ w',Calls Tryz.prog 208 #[bQ s,bN bO ((j:Int)+1)] w' λ e a7=>e = b3 (bN bO p9)/\w'=a7 from λ w'=>ac▸OY s (j+1) w' (by unfold maxLen;omega) (by omega));rw[ac] at U;by_cases h1:j+1<s.size
   case' neg =>
    have t:¬ (j:Int)+1<(s.size:Nat):=by omega
   case' pos =>
    have t:(j:Int)+1<(s.size:Nat):=by omega
    obtain⟨o,C⟩:=af (s[j+1]);have ay:((o.toNat:Int) == (c.toNat:Int))=false:=beq_eq_false_iff_ne.2 (λ e=>hd ((G.o.1 h1).trans (by rw[C];exact congrArg some (UInt8.toNat_inj.1 (by omega)))))
   all_goals
    clear Bg hA hd O hE ac;cases E with
    | none =>
     obtain rfl:p9 = -1:=U.o;have u:=qh (show R=none from H.o);go_wp2_with (go_at_call 208;(with_reducible refine (KE.o _).mono ?_);rintro e1 w1 ⟨rfl,rfl⟩);go_ret2;exact⟨by rw[u.o];rfl,l⟩
    | some k =>
     obtain rfl:p9=((j+1+k:Nat):Int):=U.o;have a6:=EP _ _ _ _ av.o;rw[b6] at a6;have a9:s.data.toList.length=s.size:=by simp
     go_upto_region 11 with (go_at_call 208;(with_reducible refine (KE.o _).mono ?_);rintro e1 w1 ⟨rfl,rfl⟩)
     all_goals
      have W:s.extract (j+1) (j+1+k)=tb ((s.data.toList.drop (j+1)).take k):=Ro s (j+1) k;have I:((s.data.toList.drop (j+1)).take k).length<=4000:=by rw[List.length_take,b6];omega
      obtain⟨V,WN⟩:=af ((s.data.toList.drop (j+1)).take k);obtain⟨⟨X,a4,f9⟩,F⟩:∃ z,lY V=z:=⟨_,rfl⟩;rw[WN] at I W;have aw:=qh (show R=((if f9≠0 then none else (kS (s.data.toList.drop (j+1+k+1))).map (X :: ·)).map (cZ P ++ ·)) from H.o.trans (by simp only[WN,F]));have KP:=qh (show Calls Tryz.prog 209 #[bQ (tb V)] wr λ e w'=>∃ M o J K,e = b3 (.tuple #[.agg (BC X M o J X.ar.length K),bN bO (a4:Nat),bN bO f9])/\dD w' (λ b=>wr.heap.size<=b) w'.heap.size X (ai X M o J K)/\IY wr w' from by
       have h:=V7 (tb V) wr (show V.length<=maxLen by unfold maxLen;omega) (pK.o wr l).1 (pK.o wr l).2 (λ _ x h=>b7 (Sj (s:=V) I h) (by decide));rw[show (tb V).data.toList=V from rfl,F] at h;exact h)
      have ae:=qh (λ h:f9=0=>PR I (by rw[F,h]));clear WN F H av I;by_cases hf:f9=0
      .have ae:=qh (ae.o hf);obtain⟨g5,WO⟩:=jk hf;have u:=qh (show R=_ from aw.o.trans (by rw[if_neg (λ h=>h hf)]));clear hf;go_upto_region 14 with (go_at_call 209;rw[W];(with_reducible refine KP.o.mono ?_);rintro e5 Y ⟨M,o,J,K,rfl,ad,y⟩);obtain⟨W6,yC⟩:=aC (Y.alloc (.cells (BC X M o J X.ar.length K) 67 (0,0)));have h6:IY Y W6:=yC▸az Y _;have BX:ah W6 Y.heap.size 67 (BC X M o J X.ar.length K):=yC▸ah.new Y _ _;rw[<- yC];clear yC;obtain⟨gG,fZ,fV,gI,gJ,gK,gQ,fM⟩:=ah.c8 BX;have N:IY wr W6:=y.trans (h6.mono y.size);have am:=qh (D.o.later N);have a5:=dm B.o.1 N;have kc:=Ia am.o.pl;have A:=a5.alloc (.cells #[.string (tb acc),.bool false,.int .i64 0,.int .i64 0,.string ⟨#[]⟩,.int .i64 0,.int .i64 0,.string ⟨#[]⟩,.slice none 0 0,.slice none 0 0,.string ⟨#[]⟩,.bool true,.int .i64 X.k,.int .i64 X.op,.string X.nm,.int .i64 X.v.k,.int .i64 X.v.n,.string X.v.s,.slice M X.v.l.length o,.slice J X.ar.length K] 266 (0,0));have a2:=N.size;have a3:=qh ad;have aL:=qh N;have H6:=qh h6;clear ad BX;go_wp2_with (at_builtin;refine wpList_append_own_at _ rfl _ _ 262 rfl w.heap.size 266 j0 (.agg #[.string ⟨#[]⟩,.bool false,.int .i64 0,.int .i64 0,.string ⟨#[]⟩,.int .i64 0,.int .i64 0,.string ⟨#[]⟩,.slice none 0 0,.slice none 0 0]) 10 136 Tryz.underlying262 a0 ap ak ar rfl (by decide) _ P.length aM rfl A ⟨W6.heap.size,0,none⟩ 2 2 [.string (tb acc),.bool false,.int .i64 0,.int .i64 0,.string ⟨#[]⟩,.int .i64 0,.int .i64 0,.string ⟨#[]⟩,.slice none 0 0,.slice none 0 0,.string ⟨#[]⟩,.bool true,.int .i64 X.k,.int .i64 X.op,.string X.nm,.int .i64 X.v.k,.int .i64 X.v.n,.string X.v.s,.slice M X.v.l.length o,.slice J X.ar.length K] rfl rfl (nI (ah.new W6 _ _)) (by simp[ce]) (by unfold maxLen;omega) (by omega) (by have:=l.size;simp;omega) ?_;intro v4 w4 a f _ Z);have r:=az W6 (.cells #[.string (tb acc),.bool false,.int .i64 0,.int .i64 0,.string ⟨#[]⟩,.int .i64 0,.int .i64 0,.string ⟨#[]⟩,.slice none 0 0,.slice none 0 0,.string ⟨#[]⟩,.bool true,.int .i64 X.k,.int .i64 X.op,.string X.nm,.int .i64 X.v.k,.int .i64 X.v.n,.string X.v.s,.slice M X.v.l.length o,.slice J X.ar.length K] 266 (0,0));have q:IY w w4:=((l.trans (aL.o.mono m)).trans (r.mono (b7 m a2))).grown f (by simp;omega) (λ g hg=>(A.lt g hg).1);have wI:=Iz.push (Q:=[(false,zeroE),(true,X)]) (am.o.later r) A (λ i hi=>((B.o.2 i hi).keep (dN.of aL.o) (λ _ h _=>h)).keep (dN.of r) (λ _ h _=>h)) rfl (λ i hi=>by
        rcases i with _ | _ | i
        .exact⟨tb acc,_,rfl,MF _ _⟩
        .refine⟨⟨#[]⟩,_,rfl,((a3.o.keep (dN.of (H6.o.trans (r.mono H6.o.size)))).imp (λ k hk _=>⟨b7 m hk,λ e=>?_,λ e=>?_⟩)).up (b7 H6.o.size r.size)⟩
         .have:=(B.o.1.lt k e).2;omega
         .have:=(D.o.pl.lt k e).2;omega
        .simp at hi;omega) f a Z
       have Af:=qh wI.empty;have a1:=qh (show R=(kS (s.data.toList.drop (j+1+k+1))).map (cZ (P ++ [(false,zeroE),(true,X)]) ++ ·) from u.o.trans (by rw[xN];cases kS (s.data.toList.drop (j+1+k+1)) <;> simp[cZ]));go_roundw
       case rel=>exact⟨j+1+k+1,P ++ [(false,zeroE),(true,X)],[],by go_num,by omega,Af,a1,q,ca _,by rw[b5];simp;omega,qh (λ p hp=>(cn.1 hp).elim (JA.o p) (λ h=>by rcases ch.1 h with rfl | h;exact (by decide);rcases ch.1 h with rfl | h;exact ae.o;cases h))⟩
       case measure =>
        have:=aW.o
        first | (simp[intOf];done) | (simp[intOf];omega)
      .obtain⟨g5,WO⟩:=fU hf;have u:=qh (show R=none from aw.o.trans (by rw[if_pos hf];rfl));clear hf;go_wp2_with (go_at_call 209;rw[W];(with_reducible refine KP.o.mono ?_);rintro e5 Y ⟨M,o,J,K,rfl,ad,y⟩);go_ret2;exact⟨by rw[u.o];rfl,by first | exact l.trans (y.mono m) | exact (l.trans (y.mono m)).alloc (by have:=y.size;omega) _⟩
  .have e:j=s.size:=by omega
   subst e;have u:=qh (show R=some (cZ P) from S.o.trans (by rw[V9];simp));have kc:=Ia D.o.pl;have A:=B.o.1.alloc (bX #[bQ (tb acc),b0 false,bN bO 0,bN bO 0,bQ ⟨#[]⟩,bN bO 0,bN bO 0,bQ ⟨#[]⟩,bR none 0 0,bR none 0 0] 266 (0,0));have VK:¬ ((s.size:Nat):Int)<((s.size:Nat):Int):=by omega
   go_wp2_with (at_builtin;refine wpList_append_own_at _ rfl _ _ 262 rfl w.heap.size 266 j0 (.agg #[.string ⟨#[]⟩,.bool false,.int .i64 0,.int .i64 0,.string ⟨#[]⟩,.int .i64 0,.int .i64 0,.string ⟨#[]⟩,.slice none 0 0,.slice none 0 0]) 10 136 Tryz.underlying262 a0 ap ak ar rfl (by decide) _ P.length aM rfl A ⟨wr.heap.size,0,none⟩ 1 1 [.string (tb acc),.bool false,.int .i64 0,.int .i64 0,.string ⟨#[]⟩,.int .i64 0,.int .i64 0,.string ⟨#[]⟩,.slice none 0 0,.slice none 0 0] rfl rfl (nI (ah.new wr _ _)) (by simp[ce]) (by unfold maxLen;omega) (by omega) (by have:=l.size;simp;omega) ?_;intro v4 w4 a f _ Z);have r:=az wr (.cells #[.string (tb acc),.bool false,.int .i64 0,.int .i64 0,.string ⟨#[]⟩,.int .i64 0,.int .i64 0,.string ⟨#[]⟩,.slice none 0 0,.slice none 0 0] 266 (0,0));have q:IY w w4:=(l.trans (r.mono m)).grown f (by simp;omega) (λ g hg=>(A.lt g hg).1);have wI:=Iz.push (Q:=[(false,zeroE)]) (D.o.later r) A (λ i hi=>(B.o.2 i hi).keep (dN.of r) (λ _ h _=>h)) rfl (λ i hi=>by
    obtain rfl:i=0:=by simpa using hi
    exact⟨tb acc,_,rfl,MF _ _⟩) f a Z
   obtain⟨A4,c4,rfl⟩:=iU a;go_ret2;refine⟨?_,q⟩;rw[u.o];exact⟨A4,P ++ [(false,zeroE)],c4,by rw[b5];rfl,wI.at_ (by rw[b5];unfold maxLen;simp;omega),by rw[xN];exact List.append_nil _,λ p hp=>(cn.1 hp).elim (JA.o p) (λ h=>by rcases ch.1 h with rfl | h;exact (by decide);cases h)⟩
end Go.Proofs.YtcnagconagpkcaaGreatDoor
