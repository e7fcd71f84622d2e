/- Lemmas. -/
import Derived.Test.YtcnagconagpkcaaGreatDoorZ2
set_option maxHeartbeats 8000000
set_option maxRecDepth 100000
open Go.Value renaming int->bc, string->be, slice->bf, pointer->bg, bool->bi
open Go.IntKind renaming i64->bd
open Go.Obj renaming cells->bh
open Nat renaming le_trans->bj, le_refl->bl, zero_le->bs, eq_zero_or_pos->bK, min_eq_left->bL, mul_le_mul_right->bN
open And renaming intro->bk
open Go.World renaming size_alloc->bm
open Go.Instr renaming lookup->bo
open List renaming take_succ_eq_append_getElem->bp, length_take->bq, drop_eq_getElem_cons->bt, length_take_le'->bv, take_of_length_le->bw, eq_nil_of_length_eq_zero->bx, find?_eq_none->bA, drop_eq_nil_of_le->bB, any_eq_true->bE, find?_some->bO, mem_of_find?_eq_some->bR
open Go.Lib renaming containsS->br
namespace Go.Proofs.YtcnagconagpkcaaGreatDoor
open Go.RowKit
theorem zeroCell (w:World):(zeroValue 51).run Tryz.prog w = .ok (.agg #[be ⟨#[]⟩,bc bd 0,bf none 0 0]) w:=by kernel_rfl
theorem endW {d:Func} {s t:Tmp} {tmps:Array Value} {w a:World} {g b:Nat} {i l a0 a1 n:Value} {Q:Ending->World->Prop} (j:d.results = #[.cell s 162,.tmp t]) (m:tmps[s]?.getD undef = bg (some ⟨g,0,none⟩)) (r:tmps[t]?.getD undef=n) (B:ag a g 162 #[i,l]) (k:Below b w a) (f:b<=g) (h:∀ W,W=(a.setCell ⟨g,0,none⟩ a0).setCell ⟨g,1,none⟩ a1->Below b w W->Q (.returned (.tuple #[.agg #[a0,a1],n])) W) :
  bodyPost Tryz.prog d Q Exit.ret { tmps:=tmps,defers:=[] } ((a.setCell ⟨g,0,none⟩ a0).setCell ⟨g,1,none⟩ a1):=by
 obtain⟨W,c⟩:=aH ((a.setCell ⟨g,0,none⟩ a0).setCell ⟨g,1,none⟩ a1);have e:ag W g 162 #[a0,a1]:=c▸((B.dS 0 _).dS 1 _);have u:=h W c (c▸((k.setCell (p:=⟨g,0,none⟩) f _).setCell (p:=⟨g,1,none⟩) f _));rw[<- c];have o:W.cell? ⟨g,0,none⟩=some a0:=e.cell 0;have q:W.cell? ⟨g,1,none⟩=some a1:=e.cell 1;exact bodyPost_ret (v:=.tuple #[.agg #[a0,a1],n]) (by simp[results,j,go_sem,m,r,o,q]) rfl u
structure WoR (en:Ending) (w w':World) (B:Nat) (cells:List aY) (loops:List bP):Prop where
 ex:∃ f:Int,en = .returned (.tuple #[.agg #[.map (some (w.heap.size+1)),.map (some (w.heap.size+1+1))],bc bd f])/\f=gG cells loops/\(f=0->∃ mV mZ,aS w' (w.heap.size+1) mV/\aS w' (w.heap.size+1+1) mZ/\MI w' B mV cells/\Lr w' B mZ loops)
 hb:EG w w'
theorem ML (cells:List aY) (loops:List bP) (AC:Option Addr) (cc:Nat) (AN:Option Addr) (cn B:Nat) (w:World) (hC:fJ w B AC cells) (hN:qK w B AN loops) (E:B<=w.heap.size) :
  Calls Tryz.prog 75 #[bf AC cells.length cc,bf AN loops.length cn] w λ en w'=>WoR en w w' B cells loops:=by
 have aL:=qh hC;have ba:=qh hN;have aR:=hC.1;have a6:=hN.1;unfold maxLen at aR a6;have bb:=qh (bk hC.1 hN.1);clear hC hN;have a4:=@run_makeMap Tryz.prog;go_enter Tryz.func75,Tryz.ntmps75;go_wp2;obtain⟨W,hW⟩:=aH ((((w.alloc (bh #[.map none,.map none] 162 (0,0))).alloc (.map #[] 0)).alloc (.map #[] 0)).alloc (bh #[.map (some (w.heap.size+1)),.map (some (w.heap.size+1+1))] 162 (0,0)));rw[<- hW];clear a4;have a:EG w W:=hW▸((((Below.refl _ w).alloc (bl _) _).alloc (by simp) _).alloc (by simp;try omega) _).alloc (by simp;try omega) _;have BR:ag W w.heap.size 162 #[.map none,.map none]:=hW▸(((ag.new w _ _).alloc _).alloc _).alloc _;have m:ag W (w.heap.size+1+1+1) 162 #[.map (some (w.heap.size+1)),.map (some (w.heap.size+1+1))]:=by
  rw[hW];have:=ag.new (((w.alloc (bh #[.map none,.map none] 162 (0,0))).alloc (.map #[] 0)).alloc (.map #[] 0)) 162 #[.map (some (w.heap.size+1)),.map (some (w.heap.size+1+1))]
  rwa [bm,bm,bm] at this
 have WC:=qh (show aS W (w.heap.size+1) [] by
  rw[hW];have:=((aS.made (w.alloc (bh #[.map none,.map none] 162 (0,0)))).alloc (.map #[] 0)).alloc (bh #[.map (some (w.heap.size+1)),.map (some (w.heap.size+1+1))] 162 (0,0))
  rwa [bm] at this)
 have WB:=qh (show aS W (w.heap.size+1+1) [] by
  rw[hW];have:=(aS.made ((w.alloc (bh #[.map none,.map none] 162 (0,0))).alloc (.map #[] 0))).alloc (bh #[.map (some (w.heap.size+1)),.map (some (w.heap.size+1+1))] 162 (0,0))
  rwa [bm,bm] at this)
 have y:=qh (bk BR m);clear hW BR m;go_loopw [22] (λ i wr=>∃ (k:Nat) (mV:List (ByteArray × Value)),k<=cells.length/\i = bc bd k/\Hid (gB bY [] cells=gB bY (cells.take k) (cells.drop k))/\Hid (aS wr (w.heap.size+1) mV/\MI wr B mV (cells.take k))/\Hid (aS wr (w.heap.size+1+1) [])/\Hid (ag wr (w.heap.size) 162 #[.map none,.map none]/\ag wr (w.heap.size+1+1+1) 162 #[.map (some (w.heap.size+1)),.map (some (w.heap.size+1+1))])/\EG w wr) (λ i _=>cells.length - (intOf i).toNat)
 case atStart=>exact⟨0,[],bs _,rfl,qh rfl,qh ⟨WC.o,MI.nil _ _⟩,WB,y,a⟩
 case round =>
  obtain⟨k,mV,hk,rfl,HD,C,R,y,q⟩:=hrel;have G:=q.size;have Bf:=q.mono E;have an:w.heap.size+1+1+1<wr.heap.size:=y.o.2.lt;by_cases hlt:k<cells.length
  .obtain⟨ad,ci,rfl,hb,D,e⟩:=(aL.o.keep Bf).at_ hlt;obtain⟨d,Q⟩:=af (cells[k]);have D7:=qh (show gB bY [] cells=if bY (cells.take k) d≠0 then bY (cells.take k) d else gB bY (cells.take (k+1)) (cells.drop (k+1)) by
    rw[HD.o,bt hlt,Q,gB,bp hlt,Q])
   have al:=qh (show cells.take (k+1)=cells.take k ++ [d] by rw[bp hlt,Q]);rw[Q] at D;have aX:=qh hlt;have tq:=qh D;obtain⟨⟨A,c,rfl,MK,P⟩,F,M,O⟩:=D;have qJ:wr.cell? (ad.add (k*3))=some (be d.nm):=e 0 _ rfl;have rU:wr.cell? ⟨(ad.add (k*3)).block,(ad.add (k*3)).off+1,none⟩=some (bc bd d.kind):=e 1 _ rfl;have x9:wr.cell? ⟨(ad.add (k*3)).block,(ad.add (k*3)).off+2,none⟩=some (bf A d.loops.length c):=e 2 _ rfl;have CY:=qh (bk MK (bk P (bk M O)));clear e Q MK P M O;go_wp2_with fail;obtain⟨W1,o⟩:=aH (wr.alloc (bh #[be d.nm,bc bd d.kind,bf A d.loops.length c] 51 (0,0)));have b:EG wr W1:=o▸(Below.refl _ wr).alloc (bl _) _;have t:ag W1 wr.heap.size 51 #[be d.nm,bc bd d.kind,bf A d.loops.length c]:=o▸ag.new wr _ _;rw[<- o];have a:=q.trans (b.mono G);have BR:=y.o.1.below b y.o.1.lt;have m:=y.o.2.below b y.o.2.lt;have z:=qh (bk (C.o.1.below b C.o.1.lt) (C.o.2.keep (b.mono (bj E G))));have PT:=qh (tq.o.keep (b.mono (bj E G)));obtain⟨bn,l⟩:=af (bz d.nm.data.toList);have S:=qh l;clear l qJ rU x9;refine (lS d.nm W1 F).mono ?_;rw[S.o];rintro en w2 ⟨rfl,rfl⟩;obtain⟨K,J,L,I⟩:=ag.z2 BR;obtain⟨n,H⟩:=ag.c2 m;have xO:W1.cell? ⟨wr.heap.size,0,none⟩=some (be d.nm):=t.cell 0;have Y:W1.cell? ⟨wr.heap.size,1,none⟩=some (bc bd d.kind):=t.cell 1;have G6:W1.cell? ⟨wr.heap.size,2,none⟩=some (bf A d.loops.length c):=t.cell 2;cases bn
   .have X:=qh (show gG cells loops=5 by
     have h:=D7.o;rw[if_pos (by unfold bY;rw[if_pos S.o];decide)] at h;unfold gG;rw[if_pos (by rw[h];unfold bY;rw[if_pos S.o];decide),h];unfold bY;rw[if_pos S.o])
    clear o;go_wp2;exact endW rfl rfl rfl BR a (bl _) λ W9 _ h9=>⟨⟨5,rfl,X.o.symm,λ h=>by cases h⟩,h9⟩
   cases u:gz mV d.nm with
   | some v =>
    obtain⟨d',a5,ac,am,rfl,av⟩:=C.o.2.yes _ _ u;obtain⟨⟨A2,c2,rfl,-,-⟩,-,-,-⟩:=av;have V:(bo 159 (.map (some (w.heap.size+1))) (be d.nm) true).run Tryz.prog W1 = .ok (.tuple #[.agg #[be d'.nm,bc bd d'.kind,bf A2 d'.loops.length c2],bi true]) W1:=by
     have h:=z.o.1.look Tryz.underlying159 (zeroCell W1) F;rw[u] at h;exact h
    have X:=qh (show gG cells loops=6 by
     have ae:(cells.take k).any (λ x=>decide (x.nm=d.nm))=true:=Iz (f:=aY.nm) ac am;have hf:bY (cells.take k) d=6:=by unfold bY;rw[if_neg (by rw[S.o];simp),if_pos ae]
     have h:=D7.o;rw[hf,if_pos (by decide)] at h;unfold gG;rw[if_pos (by rw[h];decide),h])
    clear u ac am o;go_upto_region 8 with (fail);obtain⟨W2,r⟩:=aH (W1.alloc (bh #[be d'.nm,bc bd d'.kind,bf A2 d'.loops.length c2] 51 (0,0)));have j:EG W1 W2:=r▸(Below.refl _ W1).alloc (bl _) _;rw[<- r];have a:=a.trans (j.mono a.size);have BR:=BR.below j BR.lt;have m:=m.below j m.lt;clear r j V K J L I n H xO Y G6;obtain⟨K,J,L,I⟩:=ag.z2 BR;obtain⟨n,H⟩:=ag.c2 m;go_wp2;exact endW rfl rfl rfl BR a (bl _) λ W9 _ h9=>⟨⟨6,rfl,X.o.symm,λ h=>by cases h⟩,h9⟩
   | none =>
    have V:(bo 159 (.map (some (w.heap.size+1))) (be d.nm) true).run Tryz.prog W1 = .ok (.tuple #[.agg #[be ⟨#[]⟩,bc bd 0,bf none 0 0],bi false]) W1:=by
     have h:=z.o.1.look Tryz.underlying159 (zeroCell W1) F;rw[u] at h;exact h
    have HG:=qh u;have Xc:=qh (show (cells.take k).any (λ x=>decide (x.nm=d.nm))=false from MJ (f:=aY.nm) (z.o.2.no _ u));clear u o;go_upto_region 8 with (fail);obtain⟨W2,r⟩:=aH (W1.alloc (bh #[be ⟨#[]⟩,bc bd 0,bf none 0 0] 51 (0,0)));have j:EG W1 W2:=r▸(Below.refl _ W1).alloc (bl _) _;rw[<- r];have a:=a.trans (j.mono a.size);have BR:=BR.below j BR.lt;have m:=m.below j m.lt;have t:=t.below j t.lt;have Z:=qh (bk (z.o.1.below j z.o.1.lt) (z.o.2.keep (j.mono (bj E (bj G b.size)))));have Jy:=qh (PT.o.keep (j.mono (bj E (bj G b.size))));have aM:wr.heap.size<W2.heap.size:=t.lt;have T:=b.trans (j.mono b.size);clear r V K J L I n H xO Y G6 z PT;obtain⟨K,J,L,I⟩:=ag.z2 BR;obtain⟨n,H⟩:=ag.c2 m;have xO:W2.cell? ⟨wr.heap.size,0,none⟩=some (be d.nm):=t.cell 0;have Y:W2.cell? ⟨wr.heap.size,1,none⟩=some (bc bd d.kind):=t.cell 1;have G6:W2.cell? ⟨wr.heap.size,2,none⟩=some (bf A d.loops.length c):=t.cell 2;obtain⟨ok,ay⟩:=af (bu d.kind 2 7);have aq:=qh ay;clear ay;go_wp2_with fail;refine (bD d.kind 2 7 W2).mono ?_;rw[aq.o];rintro en w3 ⟨rfl,rfl⟩;cases ok;rotate_left
    .have X:=qh (show gG cells loops=4 by
      have hf:bY (cells.take k) d=4:=by unfold bY;rw[if_neg (by rw[S.o];simp),if_neg (by rw[Xc.o];simp),if_pos aq.o]
      have h:=D7.o;rw[hf,if_pos (by decide)] at h;unfold gG;rw[if_pos (by rw[h];decide),h])
     go_wp2;exact endW rfl rfl rfl BR a (bl _) λ W9 _ h9=>⟨⟨4,rfl,X.o.symm,λ h=>by cases h⟩,h9⟩
    have HZ:=qh (show bY (cells.take k) d=0 by unfold bY;rw[if_neg (by rw[S.o];simp),if_neg (by rw[Xc.o];simp),if_neg (by rw[aq.o];simp)]);go_wp2_with (at_mapUpdate;refine jk rfl _ _ _ 159 51 rfl Tryz.underlying159 rfl Z.o.1 ?c1 rfl rfl ?c2 ?_)
    case c1 =>
     have h1:=Z.o.2.len;have h2:(cells.take k).length<=cells.length:=bv _ _;rw[h1];unfold maxLen;have:=aX.o;rw[bq];omega
    case c2=>exact F
    intro W3 ao s;have a0:W2.heap.size<=W3.heap.size:=s.size;have a8:B<=w.heap.size+1:=by omega
    have aw:EG w W3:=a.grown s a.size (λ g u=>by injection u with u;omega);have N:Below B W2 W3:=((Below.refl B W2).grown s (by omega) (λ g u=>by injection u with u;omega));have ap:=qh (show aS W3 (w.heap.size+1) _/\MI W3 B _ (cells.take (k+1)) from ⟨ao,by rw[al.o];exact (Z.o.2.keep N).add (Jy.o.keep N) HG.o⟩);have ar:=qh (show ag W3 (w.heap.size) 162 #[.map none,.map none]/\ag W3 (w.heap.size+1+1+1) 162 #[.map (some (w.heap.size+1)),.map (some (w.heap.size+1+1))] from ⟨BR.grown s (by simp;try omega),m.grown s (by simp;try omega)⟩);have Xd:=qh ((R.o.below T R.o.lt).kept s (by simp;try omega));have aa:=qh (show gB bY [] cells=gB bY (cells.take (k+1)) (cells.drop (k+1)) by rw[D7.o,if_neg (by rw[HZ.o];simp)]);clear s N K J L I n H xO Y G6;go_wp2;go_roundw
    case rel=>exact⟨k+1,_,aX.o,by go_num,aa,ap,Xd,ar,aw⟩
    case measure =>
     have:=aX.o;simp[intOf];omega
  .have ab:cells.take k=cells:=bw (by omega);have Ue:=qh (show gB bY [] cells=0 by rw[HD.o,bB (by omega)];rfl);rw[ab] at C;clear ab;have MN:=qh (show aS wr (w.heap.size+1+1) [] from R.o);have Bh:=qh C.o;have a:=q;clear HD;go_wp2;go_loopw [53] (λ i wr=>∃ (k:Nat) (mZ:List (ByteArray × Value)),k<=loops.length/\i = bc bd k/\Hid (gB bZ [] loops=gB bZ (loops.take k) (loops.drop k))/\Hid (aS wr (w.heap.size+1+1) mZ/\Lr wr B mZ (loops.take k))/\Hid (aS wr (w.heap.size+1) mV/\MI wr B mV cells)/\Hid (ag wr (w.heap.size) 162 #[.map none,.map none]/\ag wr (w.heap.size+1+1+1) 162 #[.map (some (w.heap.size+1)),.map (some (w.heap.size+1+1))])/\EG w wr) (λ i _=>loops.length - (intOf i).toNat)
   case atStart=>exact⟨0,[],bs _,rfl,qh rfl,qh ⟨MN.o,Lr.nil _ _⟩,Bh,y,a⟩
   case round =>
    clear Bh MN C R y q Bf an G a;obtain⟨k,mZ,hk,rfl,HD,C,R,y,q⟩:=hrel;have G:=q.size;have Bf:=q.mono E;have an:w.heap.size+1+1+1<wr.heap.size:=y.o.2.lt;by_cases hlt:k<loops.length
    .obtain⟨ad,ci,rfl,hb,D,e⟩:=(ba.o.keep Bf).at_ hlt;obtain⟨d,Q⟩:=af (loops[k]);have D7:=qh (show gB bZ [] loops=if bZ (loops.take k) d≠0 then bZ (loops.take k) d else gB bZ (loops.take (k+1)) (loops.drop (k+1)) by
      rw[HD.o,bt hlt,Q,gB,bp hlt,Q])
     have al:=qh (show loops.take (k+1)=loops.take k ++ [d] by rw[bp hlt,Q]);rw[Q] at D;have aX:=qh hlt;have tq:=qh D;obtain⟨⟨A,c,rfl,MK,P⟩,F,M,O⟩:=D;have qJ:wr.cell? (ad.add (k*2))=some (be d.nm):=e 0 _ rfl;have rU:wr.cell? ⟨(ad.add (k*2)).block,(ad.add (k*2)).off+1,none⟩=some (bf A d.loops.length c):=e 1 _ rfl;have CY:=qh (bk MK (bk P (bk M O)));clear e Q MK P M O;go_wp2_with fail;obtain⟨W1,o⟩:=aH (wr.alloc (bh #[be d.nm,bf A d.loops.length c] 184 (0,0)));have b:EG wr W1:=o▸(Below.refl _ wr).alloc (bl _) _;have t:ag W1 wr.heap.size 184 #[be d.nm,bf A d.loops.length c]:=o▸ag.new wr _ _;rw[<- o];have a:=q.trans (b.mono G);have BR:=y.o.1.below b y.o.1.lt;have m:=y.o.2.below b y.o.2.lt;have z:=qh (bk (C.o.1.below b C.o.1.lt) (C.o.2.keep (b.mono (bj E G))));have PT:=qh (tq.o.keep (b.mono (bj E G)));obtain⟨bn,l⟩:=af (bz d.nm.data.toList);have S:=qh l;clear l qJ rU;refine (lS d.nm W1 F).mono ?_;rw[S.o];rintro en w2 ⟨rfl,rfl⟩;obtain⟨K,J,L,I⟩:=ag.z2 BR;obtain⟨n,H⟩:=ag.c2 m;obtain⟨xO,Y⟩:=ag.c2 t;cases bn
     .have X:=qh (show gG cells loops=5 by
       have h:=D7.o;rw[if_pos (by unfold bZ;rw[if_pos S.o];decide)] at h;unfold gG;rw[if_neg (by rw[Ue.o];simp),if_pos (by rw[h];unfold bZ;rw[if_pos S.o];decide),h];unfold bZ;rw[if_pos S.o])
      clear o;go_wp2;exact endW rfl rfl rfl BR a (bl _) λ W9 _ h9=>⟨⟨5,rfl,X.o.symm,λ h=>by cases h⟩,h9⟩
     cases u:gz mZ d.nm with
     | some v =>
      obtain⟨d',a5,ac,am,rfl,av⟩:=C.o.2.yes _ _ u;obtain⟨⟨A2,c2,rfl,-,-⟩,-,-,-⟩:=av;have V:(bo 160 (.map (some (w.heap.size+1+1))) (be d.nm) true).run Tryz.prog W1 = .ok (.tuple #[.agg #[be d'.nm,bf A2 d'.loops.length c2],bi true]) W1:=by
       have h:=z.o.1.look Tryz.underlying160 (rV W1) F;rw[u] at h;exact h
      have X:=qh (show gG cells loops=6 by
       have ae:(loops.take k).any (λ x=>decide (x.nm=d.nm))=true:=Iz (f:=bP.nm) ac am;have hf:bZ (loops.take k) d=6:=by unfold bZ;rw[if_neg (by rw[S.o];simp),if_pos ae]
       have h:=D7.o;rw[hf,if_pos (by decide)] at h;unfold gG;rw[if_neg (by rw[Ue.o];simp),if_pos (by rw[h];decide),h])
      clear u ac am o;go_upto_region 20 with (fail);obtain⟨W2,r⟩:=aH (W1.alloc (bh #[be d'.nm,bf A2 d'.loops.length c2] 184 (0,0)));have j:EG W1 W2:=r▸(Below.refl _ W1).alloc (bl _) _;rw[<- r];have a:=a.trans (j.mono a.size);have BR:=BR.below j BR.lt;have m:=m.below j m.lt;clear r j V K J L I n H xO Y;obtain⟨K,J,L,I⟩:=ag.z2 BR;obtain⟨n,H⟩:=ag.c2 m;go_wp2;exact endW rfl rfl rfl BR a (bl _) λ W9 _ h9=>⟨⟨6,rfl,X.o.symm,λ h=>by cases h⟩,h9⟩
     | none =>
      have V:(bo 160 (.map (some (w.heap.size+1+1))) (be d.nm) true).run Tryz.prog W1 = .ok (.tuple #[.agg #[be ⟨#[]⟩,bf none 0 0],bi false]) W1:=by
       have h:=z.o.1.look Tryz.underlying160 (rV W1) F;rw[u] at h;exact h
      have HG:=qh u;have Xc:=qh (show (loops.take k).any (λ x=>decide (x.nm=d.nm))=false from MJ (f:=bP.nm) (z.o.2.no _ u));clear u o;go_upto_region 20 with (fail);obtain⟨W2,r⟩:=aH (W1.alloc (bh #[be ⟨#[]⟩,bf none 0 0] 184 (0,0)));have j:EG W1 W2:=r▸(Below.refl _ W1).alloc (bl _) _;rw[<- r];have a:=a.trans (j.mono a.size);have BR:=BR.below j BR.lt;have m:=m.below j m.lt;have t:=t.below j t.lt;have Z:=qh (bk (z.o.1.below j z.o.1.lt) (z.o.2.keep (j.mono (bj E (bj G b.size)))));have Jy:=qh (PT.o.keep (j.mono (bj E (bj G b.size))));have aM:wr.heap.size<W2.heap.size:=t.lt;have T:=b.trans (j.mono b.size);clear r V K J L I n H xO Y z PT;obtain⟨K,J,L,I⟩:=ag.z2 BR;obtain⟨n,H⟩:=ag.c2 m;obtain⟨xO,Y⟩:=ag.c2 t;obtain⟨nb,ak⟩:=af (jW (loops.take k) d.loops);have U:=qh ak;clear ak;go_wp2_with fail;refine (yE d.loops A c (w.heap.size+1) (w.heap.size+1+1) B mZ (loops.take k) W2 CY.o.2.2.1 CY.o.2.2.2 (CY.o.1.below (T.mono (bj E G))) CY.o.2.1 (by omega) Z.o.1 Z.o.2).mono ?_;rw[U.o];rintro en W4 ⟨rfl,l⟩;have a:=a.trans (l.mono a.size);have BR:=BR.below l BR.lt;have m:=m.below l m.lt;have t:=t.below l t.lt;have Z:=qh (bk (Z.o.1.below l Z.o.1.lt) (Z.o.2.keep (l.mono (by omega))));have Jy:=qh (Jy.o.keep (l.mono (by omega)));have aM:wr.heap.size<W4.heap.size:=t.lt;have T:=T.trans (l.mono (by omega));clear l K J L I n H xO Y;obtain⟨K,J,L,I⟩:=ag.z2 BR;obtain⟨n,H⟩:=ag.c2 m;obtain⟨xO,Y⟩:=ag.c2 t;cases nb
      .have X:=qh (show gG cells loops=7 by
        have hf:bZ (loops.take k) d=7:=by unfold bZ;rw[if_neg (by rw[S.o];simp),if_neg (by rw[Xc.o];simp),if_pos U.o]
        have h:=D7.o;rw[hf,if_pos (by decide)] at h;unfold gG;rw[if_neg (by rw[Ue.o];simp),if_pos (by rw[h];decide),h])
       go_wp2;exact endW rfl rfl rfl BR a (bl _) λ W9 _ h9=>⟨⟨7,rfl,X.o.symm,λ h=>by cases h⟩,h9⟩
      have HZ:=qh (show bZ (loops.take k) d=0 by unfold bZ;rw[if_neg (by rw[S.o];simp),if_neg (by rw[Xc.o];simp),if_neg (by rw[U.o];simp)]);go_wp2_with (at_mapUpdate;refine jk rfl _ _ _ 160 184 rfl Tryz.underlying160 rfl Z.o.1 ?c1 rfl rfl ?c2 ?_)
      case c1 =>
       have h1:=Z.o.2.len;have h2:(loops.take k).length<=loops.length:=bv _ _;rw[h1];unfold maxLen;have:=aX.o;rw[bq];omega
      case c2=>exact F
      intro W3 ao s;have a0:W4.heap.size<=W3.heap.size:=s.size;have a8:B<=w.heap.size+1+1:=by omega
      have aw:EG w W3:=a.grown s a.size (λ g u=>by injection u with u;omega);have N:Below B W4 W3:=((Below.refl B W4).grown s (by omega) (λ g u=>by injection u with u;omega));have ap:=qh (show aS W3 (w.heap.size+1+1) _/\Lr W3 B _ (loops.take (k+1)) from ⟨ao,by rw[al.o];exact (Z.o.2.keep N).add (Jy.o.keep N) HG.o⟩);have ar:=qh (show ag W3 (w.heap.size) 162 #[.map none,.map none]/\ag W3 (w.heap.size+1+1+1) 162 #[.map (some (w.heap.size+1)),.map (some (w.heap.size+1+1))] from ⟨BR.grown s (by simp;try omega),m.grown s (by simp;try omega)⟩);have Xd:=qh (bk ((R.o.1.below T (R.o.1.lt)).kept s (by simp;try omega)) ((R.o.2.keep (T.mono (bj E G))).keep N));have aa:=qh (show gB bZ [] loops=gB bZ (loops.take (k+1)) (loops.drop (k+1)) by rw[D7.o,if_neg (by rw[HZ.o];simp)]);clear s N K J L I n H xO Y;go_wp2;go_roundw
      case rel=>exact⟨k+1,_,aX.o,by go_num,aa,ap,Xd,ar,aw⟩
      case measure =>
       have:=aX.o;simp[intOf];omega
    .have ab:loops.take k=loops:=bw (by omega);have aA:=qh (show gB bZ [] loops=0 by rw[HD.o,bB (by omega)];rfl);rw[ab] at C;clear ab;have a3:True:=trivial;clear a3;go_wp2;go_loopw [86] (λ i wr=>∃ k:Nat,k<=cells.length/\i = bc bd k/\Hid (∀ x∈cells.take k,jW loops x.loops=true)/\Hid (aS wr (w.heap.size+1) mV/\MI wr B mV cells)/\Hid (aS wr (w.heap.size+1+1) mZ/\Lr wr B mZ loops)/\Hid (ag wr (w.heap.size) 162 #[.map none,.map none]/\ag wr (w.heap.size+1+1+1) 162 #[.map (some (w.heap.size+1)),.map (some (w.heap.size+1+1))])/\EG w wr) (λ i _=>cells.length - (intOf i).toNat)
     case atStart=>exact⟨0,bs _,rfl,qh (by simp),qh R.o,qh C.o,y,q⟩
     case round =>
      clear C R y q Bf an G;obtain⟨k,hk,rfl,aa,R,C,y,q⟩:=hrel;have G:=q.size;have Bf:=q.mono E;have an:w.heap.size+1+1+1<wr.heap.size:=y.o.2.lt;by_cases hlt:k<cells.length
      .obtain⟨ad,ci,rfl,hb,D,e⟩:=(aL.o.keep Bf).at_ hlt;obtain⟨d,Q⟩:=af (cells[k]);have al:=qh (show cells.take (k+1)=cells.take k ++ [d] by rw[bp hlt,Q]);have a7:=qh (show d∈cells by rw[<- Q];exact List.getElem_mem hlt);rw[Q] at D;have aX:=qh hlt;obtain⟨⟨A,c,rfl,MK,P⟩,F,M,O⟩:=D;have qJ:wr.cell? (ad.add (k*3))=some (be d.nm):=e 0 _ rfl;have rU:wr.cell? ⟨(ad.add (k*3)).block,(ad.add (k*3)).off+1,none⟩=some (bc bd d.kind):=e 1 _ rfl;have x9:wr.cell? ⟨(ad.add (k*3)).block,(ad.add (k*3)).off+2,none⟩=some (bf A d.loops.length c):=e 2 _ rfl;have CY:=qh (bk MK (bk P (bk M O)));clear e Q MK P M O;obtain⟨nb,ak⟩:=af (jW loops d.loops);have U:=qh ak;clear ak;go_upto_region 29 with (fail);obtain⟨W1,o⟩:=aH (wr.alloc (bh #[be d.nm,bc bd d.kind,bf A d.loops.length c] 51 (0,0)));have b:EG wr W1:=o▸(Below.refl _ wr).alloc (bl _) _;have t:ag W1 wr.heap.size 51 #[be d.nm,bc bd d.kind,bf A d.loops.length c]:=o▸ag.new wr _ _;rw[<- o];have a:=q.trans (b.mono G);have BR:=y.o.1.below b y.o.1.lt;have m:=y.o.2.below b y.o.2.lt;have MN:=qh (bk (R.o.1.below b R.o.1.lt) (R.o.2.keep (b.mono (bj E G))));have z:=qh (bk (C.o.1.below b C.o.1.lt) (C.o.2.keep (b.mono (bj E G))));clear o qJ rU x9;obtain⟨K,J,L,I⟩:=ag.z2 BR;obtain⟨n,H⟩:=ag.c2 m;have xO:W1.cell? ⟨wr.heap.size,0,none⟩=some (be d.nm):=t.cell 0;have Y:W1.cell? ⟨wr.heap.size,1,none⟩=some (bc bd d.kind):=t.cell 1;have G6:W1.cell? ⟨wr.heap.size,2,none⟩=some (bf A d.loops.length c):=t.cell 2;go_wp2_with fail;refine (yE d.loops A c (w.heap.size+1) (w.heap.size+1+1) B mZ loops W1 CY.o.2.2.1 CY.o.2.2.2 (CY.o.1.below (b.mono (bj E G))) CY.o.2.1 (bj E a.size) z.o.1 z.o.2).mono ?_;rw[U.o];rintro en W4 ⟨rfl,l⟩;have a:=a.trans (l.mono a.size);have BR:=BR.below l BR.lt;have m:=m.below l m.lt;have G7:=qh (bk (MN.o.1.below l MN.o.1.lt) (MN.o.2.keep (l.mono (by have:=b.size;omega))));have a9:=qh (bk (z.o.1.below l z.o.1.lt) (z.o.2.keep (l.mono (by have:=b.size;omega))));clear l b t K J L I n H xO Y G6;obtain⟨K,J,L,I⟩:=ag.z2 BR;obtain⟨n,H⟩:=ag.c2 m;cases nb
       .have X:=qh (show gG cells loops=9 by
         unfold gG;rw[if_neg (by rw[Ue.o];simp),if_neg (by rw[aA.o];simp),if_pos (bE.2 ⟨d,a7.o,by rw[U.o];rfl⟩)])
        go_wp2;exact endW rfl rfl rfl BR a (bl _) λ W9 _ h9=>⟨⟨9,rfl,X.o.symm,λ h=>by cases h⟩,h9⟩
       have aZ:=qh (show ∀ x∈cells.take (k+1),jW loops x.loops=true by
        rw[al.o];intro x hx;rcases List.mem_append.1 hx with h | h
        .exact aa.o x h
        .rw[List.mem_singleton] at h;rw[h];exact U.o)
       have a2:=qh (bk BR m);clear BR m K J L I n H;go_wp2;go_roundw
       case rel=>exact⟨k+1,aX.o,by go_num,aZ,G7,a9,a2,a⟩
       case measure =>
        have:=aX.o;simp[intOf];omega
      .have X:=qh (show gG cells loops=0 by
        have h:=aa.o;rw[bw (by omega)] at h;unfold gG;rw[if_neg (by rw[Ue.o];simp),if_neg (by rw[aA.o];simp),if_neg];intro hc;obtain⟨x,hx,aD⟩:=bE.1 hc;rw[h x hx] at aD;cases aD)
       have BR:=y.o.1;have m:=y.o.2;have b:BR=BR:=rfl;clear b;obtain⟨K,J,L,I⟩:=ag.z2 BR;obtain⟨n,H⟩:=ag.c2 m;go_wp2;obtain⟨W9,iF⟩:=aH ((wr.setCell ⟨w.heap.size,0,none⟩ (.map (some (w.heap.size+1)))).setCell ⟨w.heap.size,1,none⟩ (.map (some (w.heap.size+1+1))));have B9:ag W9 (w.heap.size) 162 #[.map (some (w.heap.size+1)),.map (some (w.heap.size+1+1))]:=iF▸((BR.dS 0 _).dS 1 _);have dX:EG w W9:=iF▸((q.setCell (p:=⟨w.heap.size,0,none⟩) (bl _) _).setCell (p:=⟨w.heap.size,1,none⟩) (bl _) _);have aE:aS W9 (w.heap.size+1) mV/\MI W9 B mV cells:=iF▸⟨(R.o.1.setCell (p:=⟨w.heap.size,0,none⟩) (by show _≠w.heap.size;omega) _).setCell (p:=⟨w.heap.size,1,none⟩) (by show _≠w.heap.size;omega) _,R.o.2.keep (((Below.refl B wr).setCell (p:=⟨w.heap.size,0,none⟩) E _).setCell (p:=⟨w.heap.size,1,none⟩) E _)⟩;have ax:aS W9 (w.heap.size+1+1) mZ/\Lr W9 B mZ loops:=iF▸⟨(C.o.1.setCell (p:=⟨w.heap.size,0,none⟩) (by show _≠w.heap.size;omega) _).setCell (p:=⟨w.heap.size,1,none⟩) (by show _≠w.heap.size;omega) _,C.o.2.keep (((Below.refl B wr).setCell (p:=⟨w.heap.size,0,none⟩) E _).setCell (p:=⟨w.heap.size,1,none⟩) E _)⟩;rw[<- iF];clear iF;obtain⟨lC,a1⟩:=ag.c2 B9;exact bodyPost_ret (v:=.tuple #[.agg #[.map (some (w.heap.size+1)),.map (some (w.heap.size+1+1))],bc bd 0]) (by simp[results,Tryz.results75,go_sem,lC,a1]) rfl ⟨⟨0,rfl,X.o.symm,λ _=>⟨mV,mZ,aE.1,ax.1,aE.2,ax.2⟩⟩,dX⟩
end Go.Proofs.YtcnagconagpkcaaGreatDoor
namespace Go.Proofs.YtcnagconagpkcaaGreatDoor
open Go.RowKit
attribute [local go_sem ↓] Go.wp_at_zero Go.wp_at_succ
def og (a b:List ByteArray):Bool:=decide (a.length<=b.length) && decide (a=b.take a.length)
theorem yc (a b:List ByteArray) (A:Option Addr) (c:Nat) (A':Option Addr) (c' B:Nat) (w:World) (m:a.length<=maxLen) (q:b.length<=maxLen) (t:dB w B A a) (o:dB w B A' b) (u:b.length<=c') (v:B<=w.heap.size) :
  CS 245 #[bf A a.length c,bf A' b.length c'] w (bi (og a b)):=by
 unfold og;by_cases hl:a.length<=b.length
 .have j:(a.length:Int)<=(b.length:Int):=by omega
  have n:a.length<=c':=by omega
  have d:(b.take a.length).length=a.length:=by rw[bq];omega
  have K:=qh (show Calls Tryz.prog 16 #[bf A a.length c,bf A' a.length c'] w λ e k=>e = .returned (bi (decide (a=b.take a.length)))/\EG w k by
   have h:=kQ A A' c c' B B a (b.take a.length) w m (by rw[d];exact m) t (o.take _);rw[d] at h;exact h)
  unfold maxLen at m q;rcases hA':A' with _ | ad
  .have g:b.length=0:=by
    rcases bK b.length with h | h
    .exact h
    .obtain⟨ad,e,-⟩:=o.2 h;rw[hA'] at e;cases e
   subst hA';have i:a.length=0:=by omega
   have p:=bx i;have s:=bx g;subst p s;clear hl d j n i g;go_enter Tryz.func245,Tryz.ntmps245;go_wp2_with fail;refine K.o.mono ?_;rintro e r ⟨rfl,f⟩;go_wp2_with fail;go_ret;exact⟨aj (by simp),f⟩
  .subst hA';have l:=qh hl;clear hl d;go_enter Tryz.func245,Tryz.ntmps245;go_wp2_with fail;refine K.o.mono ?_;rintro e r ⟨rfl,f⟩;go_wp2_with fail;go_ret;exact⟨aj (by rw[decide_eq_true l.o];simp),f⟩
 .have j:¬ (a.length:Int)<=(b.length:Int):=by omega
  have l:=qh hl;clear hl;go_enter Tryz.func245,Tryz.ntmps245;go_wp2_with fail;go_ret;exact⟨aj (by rw[decide_eq_false l.o];simp),Below.refl _ _⟩
theorem jg {W w':World} (h:∃ p:Later W,w'=p.w):EG W w':=by
 obtain⟨p,rfl⟩:=h;exact p.h
theorem au.take {α:Type} {P:World->Nat->α->List Value->Prop} {size B:Nat} {w:World} {A:Option Addr} {l:List α} (h:au P size w B A l) (k:Nat):au P size w B A (l.take k):=by
 obtain⟨f,cs,b,n⟩:=h;have c:(l.take k).length<=l.length:=bv _ _;refine⟨bj c f,cs.take ((l.take k).length*size),⟨by rw[bq,b.1];exact bL (bN _ c),λ q=>?_⟩,λ i g=>?_⟩
 .obtain⟨ad,e,m,d⟩:=b.2 (by omega);refine⟨ad,e,m,λ j u a=>d j u ?_⟩;rw[List.getElem?_take] at a;split at a
  .exact a
  .cases a
 .have p:=n i (by omega);have o:i*size+size<=(l.take k).length*size:=by rw[<- Nat.succ_mul];exact bN _ g
  rw[List.drop_take,List.take_take,bL (by omega),List.getElem_take];exact p
end Go.Proofs.YtcnagconagpkcaaGreatDoor
namespace Go.Proofs.YtcnagconagpkcaaGreatDoor
open Go.RowKit
def pq (ok:Bool) (k:Int):Int × Int:=if ok then (k,0) else (0,8)
theorem fits_any (a:Bool) (k:Int) (w:World) :
  He 267 #[bi a,bc bd k] w (.tuple #[bc bd (pq a k).1,bc bd (pq a k).2]):=by
 cases a
 all_goals
  go_enter Tryz.func267,Tryz.ntmps267;go_wp2;go_ret2;exact⟨rfl,rfl⟩
theorem Xe (b:Nat) (k:Int) (w:World) (a:w.cell? ⟨b,0,none⟩=some (bc bd k)) (x:Int) :
  He 282 #[bc bd x,bg (some ⟨b,0,none⟩)] w (bi (x != k)):=by
 go_enter Tryz.func282,Tryz.ntmps282;go_wp2;go_ret;exact⟨rfl,rfl⟩
theorem aa4 (b:Nat) (k:Int) (w:World) (a:w.cell? ⟨b,0,none⟩=some (bc bd k)):PredAt Tryz.prog 282 #[bg (some ⟨b,0,none⟩)] (λ x:Int=>.int bd x) (λ x=>x != k) w:=by
 intro W x e;exact (Xe b k W (Below.cell_of e a) x).mono λ _ _ ⟨d,c⟩=>⟨d,0,c▸rfl⟩
theorem PU {w:World} {b o:Nat} {l:List Int} (h:∀ j u,(bF bd l)[j]?=some u->w.cell? ⟨b,o+j,none⟩=some u):∀ j,j<l.length->w.cell? ⟨b,o+j,none⟩=some (bc bd l[j]!):=by
 intro j a;refine h j _ ?_;unfold bF;rw[List.getElem?_map,List.getElem?_eq_getElem a];simp[a]
def allB (ks:List Int) (k:Int):Bool:=ks.all (λ x=>decide (x=k))
theorem aa5 (a:List Int) (k:Int):allB a k=!(a.any (λ x=>x != k)):=by
 unfold allB;rw[Bool.eq_iff_iff];simp
theorem Xf (a:List Int) (A:Option Addr) (c B:Nat) (b:Nat) (k:Int) (w:World) (n:a.length<=maxLen) (l:Reads w B 1 A a.length (bF bd a)) (h:w.cell? ⟨b,0,none⟩=some (bc bd k)) :
  CS 281 #[bf A a.length c,.func (.func 282) #[] #[bg (some ⟨b,0,none⟩)]] w (bi (!allB a k)):=by
 unfold maxLen at n;rw[aa5,Bool.not_not];rcases bK a.length with d | d
 .have i:=bx d;subst i;exact (Tryz.slices_ContainsFunc_empty (α:=Int) A c _ w).mono λ _ _ ⟨f,g⟩=>⟨f,g▸Below.refl _ _⟩
 .obtain⟨b1,j,rfl,-,m⟩:=l.plain d;refine (Tryz.slices_ContainsFunc (α:=Int) (λ x=>.int bd x) (λ x=>x != k) 282 _ (enters_of Tryz.func282 (by kernel_rfl) rfl) b1 j a.length c a w (aa4 b k w h) (bl _) (by omega) (PU m)).mono λ _ _ ⟨f,q,g⟩=>⟨by rw[f,List.take_length],g▸(Below.refl _ _).drewN q⟩
theorem lZ (b:List Int) (A:Option Addr) (c B:Nat) (k:Int) (w:World) (l:b.length<=maxLen) (h:Reads w B 1 A b.length (bF bd b)) (i:B<=w.heap.size) :
  CS 268 #[bf A b.length c,bc bd k] w (bi (allB b k)):=by
 have j:=qh (bk h i);clear h i;go_enter Tryz.func268,Tryz.ntmps268;go_wp2_with fail;obtain⟨W,d⟩:=aH ((w.alloc (bh #[bc bd k] 3 (0,0))));have a:EG w W:=by rw[d];exact ((Below.refl _ w).alloc (bl _) _)
 have B0:ag W (w.heap.size) 3 #[bc bd k]:=by
  rw[d];have:=ag.new w 3 #[bc bd k];exact this
 have g:W.heap.size=w.heap.size+1:=by rw[d];simp
 rw[<- d];clear d g;refine (Xf b A c B w.heap.size k W l (j.o.1.below (a.mono j.o.2)) (B0.cell 0)).mono ?_;rintro e m ⟨rfl,f⟩;have a:=a.trans (f.mono a.size);go_wp2;go_ret;exact⟨aj (by simp),a⟩
def IA (op k:Int):Int × Int:=if op=1 then pq (decide (k=2)) 2 else if op=2 then pq (decide (k=7)) 2 else if op=3\/op=4 then pq (decide (k=7)) 7 else pq (decide (k=2) || decide (k=6)) k
theorem Jz (op k:Int) (w:World) (a:1<=op) (b:op<=6) :
  He 246 #[bc bd op,bc bd k] w (.tuple #[bc bd (IA op k).1,bc bd (IA op k).2]):=by
 obtain rfl | rfl | rfl | rfl | rfl | rfl:op=1\/op=2\/op=3\/op=4\/op=5\/op=6:=by omega
 all_goals
  go_enter Tryz.func246,Tryz.ntmps246;go_wp2_with (go_at_call 267;refine (fits_any _ _ _).mono ?_;rintro e w' ⟨rfl,rfl⟩)
  all_goals
   go_ret2;exact⟨dC (by simp_all[IA,pq]),rfl⟩
end Go.Proofs.YtcnagconagpkcaaGreatDoor
namespace Go.Proofs.YtcnagconagpkcaaGreatDoor
open Go.RowKit
attribute [local go_sem ↓] Go.wp_at_zero Go.wp_at_succ
theorem yF (a:Bool) (k:Int) (W:World):∀ w':World,EG W w'->CS 267 #[bi a,bc bd k] w' (.tuple #[bc bd (pq a k).1,bc bd (pq a k).2]):=
 λ w' _=>(fits_any a k w').mono λ _ _ ⟨c,b⟩=>⟨c,b▸Below.refl _ _⟩
def yf (ks:List Int) (i:Nat):Int:=ks.getD i 0
def zq (op:Int) (ks:List Int):Int × Int:=
 if op=1\/op=2\/op=3 then pq (allB ks 7) 7 else
 if op=4\/op=5 then pq (yf ks 0 == yf ks 1) 7 else
 if op=6\/op=7\/op=8\/op=9 then pq (allB ks 2 || allB ks 6) 7 else
 if op=10 then pq (yf ks 0 == 4 && yf ks 1 == 5) 7 else if op=11 then pq (yf ks 0 == 5 && yf ks 1 == 4) 7 else
 if op=12\/op=13 then (7,0) else if op=14 then (2,0) else
 if op=24\/op=25 then pq (allB ks 2 || allB ks 6) (yf ks 0) else
 if op=26 then pq (yf ks 0 == 7 && yf ks 1 == yf ks 2) (yf ks 1) else if op=27 then pq (yf ks 0 == yf ks 1) (yf ks 0) else
 if op=28 then pq (yf ks 0 == 5 || yf ks 0 == 3) 2 else if op=29 then pq (yf ks 0 == 4) 2 else
 if op=30\/op=31 then pq (allB ks 3) 3 else if op=32\/op=33 then pq (allB ks 3) 7 else
 if op=34\/op=35\/op=36\/op=37\/op=38 then pq (allB ks 6) 2 else
 if op=39 then pq (yf ks 0 == 6 && yf ks 1 == 2) 6 else pq (allB ks 2) 2
theorem Xg (op:Int) (a:List Int) (A:Option Addr) (c B:Nat) (w:World) (l:a.length<=maxLen) (g:Reads w B 1 A a.length (bF bd a)) (h:B<=w.heap.size) (d:op=1\/op=2\/op=3\/op=6\/op=7\/op=8\/op=9\/op=12\/op=13\/op=14\/op=15\/op=16) :
  CS 247 #[bc bd op,bf A a.length c] w (.tuple #[bc bd (zq op a).1,bc bd (zq op a).2]):=by
 have j:=qh (λ k w' (f:EG w w')=>lZ a A c B k w' l (g.below (f.mono h)) (bj h f.size));have b:=qh (Below.refl w.heap.size w);clear g;cases hn:allB a 2
 all_goals
  rcases d with rfl | rfl | rfl | rfl | rfl | rfl | rfl | rfl | rfl | rfl | rfl | rfl
  all_goals
   go_enter Tryz.func247,Tryz.ntmps247;go_wp2_with (first | (go_at_call 268;(refine (j.o _ _ b.o).mono ?_);rintro _ n ⟨rfl,i⟩;have b:=qh (b.o.trans (i.mono b.o.size));clear i) | (go_at_call 267;(refine (fits_any _ _ _).mono ?_);rintro _ m ⟨rfl,rfl⟩));go_ret2;exact⟨dC (by simp_all[zq,yf]),b.o⟩
theorem Xh (op:Int) (a:List Int) (A:Option Addr) (c B:Nat) (w:World) (l:a.length<=maxLen) (g:Reads w B 1 A a.length (bF bd a)) (h:B<=w.heap.size) (d:op=17\/op=18\/op=19\/op=20\/op=21\/op=22\/op=23\/op=30\/op=31\/op=32\/op=33\/op=34\/op=35) :
  CS 247 #[bc bd op,bf A a.length c] w (.tuple #[bc bd (zq op a).1,bc bd (zq op a).2]):=by
 have j:=qh (λ k w' (f:EG w w')=>lZ a A c B k w' l (g.below (f.mono h)) (bj h f.size));have b:=qh (Below.refl w.heap.size w);clear g;cases hn:allB a 2
 all_goals
  rcases d with rfl | rfl | rfl | rfl | rfl | rfl | rfl | rfl | rfl | rfl | rfl | rfl | rfl
  all_goals
   go_enter Tryz.func247,Tryz.ntmps247;go_wp2_with (first | (go_at_call 268;(refine (j.o _ _ b.o).mono ?_);rintro _ n ⟨rfl,i⟩;have b:=qh (b.o.trans (i.mono b.o.size));clear i) | (go_at_call 267;(refine (fits_any _ _ _).mono ?_);rintro _ m ⟨rfl,rfl⟩));go_ret2;exact⟨dC (by simp_all[zq,yf]),b.o⟩
theorem Xi (op:Int) (a:List Int) (A:Option Addr) (c B:Nat) (w:World) (l:a.length<=maxLen) (g:Reads w B 1 A a.length (bF bd a)) (h:B<=w.heap.size) (d:op=36\/op=37\/op=38) :
  CS 247 #[bc bd op,bf A a.length c] w (.tuple #[bc bd (zq op a).1,bc bd (zq op a).2]):=by
 have j:=qh (λ k w' (f:EG w w')=>lZ a A c B k w' l (g.below (f.mono h)) (bj h f.size));have b:=qh (Below.refl w.heap.size w);clear g;cases hn:allB a 2
 all_goals
  rcases d with rfl | rfl | rfl
  all_goals
   go_enter Tryz.func247,Tryz.ntmps247;go_wp2_with (first | (go_at_call 268;(refine (j.o _ _ b.o).mono ?_);rintro _ n ⟨rfl,i⟩;have b:=qh (b.o.trans (i.mono b.o.size));clear i) | (go_at_call 267;(refine (fits_any _ _ _).mono ?_);rintro _ m ⟨rfl,rfl⟩));go_ret2;exact⟨dC (by simp_all[zq,yf]),b.o⟩
theorem MO (op:Int) (a:Int) (r:List Int) (A:Option Addr) (c B:Nat) (w:World) (x:(a :: r).length<=maxLen) (i:Reads w B 1 A (a :: r).length (bF bd (a :: r))) (n:B<=w.heap.size) (j:op=24\/op=25\/op=28\/op=29) :
  CS 247 #[bc bd op,bf A (a :: r).length c] w (.tuple #[bc bd (zq op (a :: r)).1,bc bd (zq op (a :: r)).2]):=by
 obtain⟨p,l,rfl,t,b⟩:=i.plain (by simp);have m:=qh (show ∀ g,EG w g->g.cell? ⟨p,l,none⟩=some (bc bd a) from λ g h=>Below.cell_of h (b 0 _ rfl));generalize f:a :: r=ks at *;have v:=qh (λ k w' (h:EG w w')=>lZ ks (some ⟨p,l,none⟩) c B k w' x (i.below (h.mono n)) (bj n h.size));have d:=qh (Below.refl w.heap.size w);have u:=qh (show yf ks 0=a from by rw[<- f];rfl);have C:1<=ks.length:=by rw[<- f];simp
 clear i b f;cases hn:allB ks 2 <;> cases h5:(a == 5)
 all_goals
  have q:=qh h5;rcases j with rfl | rfl | rfl | rfl
  all_goals
   have s:=m.o _ d.o;go_enter Tryz.func247,Tryz.ntmps247;go_wp2_with (first | (go_at_call 268;(refine (v.o _ _ d.o).mono ?_);rintro _ z ⟨rfl,o⟩;have d:=qh (d.o.trans (o.mono d.o.size));clear o;have s:=m.o _ d.o) | (go_at_call 267;(refine (fits_any _ _ _).mono ?_);rintro _ y ⟨rfl,rfl⟩));go_ret2;exact⟨dC (by simp[zq,u.o,hn,q.o]),d.o⟩
theorem Xj (op:Int) (a b:Int) (r:List Int) (A:Option Addr) (c B:Nat) (w:World) (u:(a :: b :: r).length<=maxLen) (l:Reads w B 1 A (a :: b :: r).length (bF bd (a :: b :: r))) (p:B<=w.heap.size) (m:op=10\/op=11\/op=39) :
  CS 247 #[bc bd op,bf A (a :: b :: r).length c] w (.tuple #[bc bd (zq op (a :: b :: r)).1,bc bd (zq op (a :: b :: r)).2]):=by
 obtain⟨n,j,rfl,v,d⟩:=l.plain (by simp);have o:=qh (show ∀ f,EG w f->f.cell? ⟨n,j,none⟩=some (bc bd a)/\f.cell? ⟨n,j+1,none⟩=some (bc bd b) from λ f i=>⟨Below.cell_of i (d 0 _ rfl),Below.cell_of i (d 1 _ rfl)⟩);generalize h:a :: b :: r=ks at *;have C:=qh (λ k w' (i:EG w w')=>lZ ks (some ⟨n,j,none⟩) c B k w' u (l.below (i.mono p)) (bj p i.size));have g:=qh (Below.refl w.heap.size w);have z:=qh (show yf ks 0=a/\yf ks 1=b from by rw[<- h];exact⟨rfl,rfl⟩);have G:2<=ks.length:=by rw[<- h];simp
 clear l d h;cases hn:allB ks 2 <;> cases h4:(a == 4) <;> cases h5:(a == 5) <;> cases h6:(a == 6)
 all_goals
  have D:=qh h4;have s:=qh h5;have y:=qh h6;rcases m with rfl | rfl | rfl
  all_goals
   obtain⟨t,x⟩:=o.o _ g.o;go_enter Tryz.func247,Tryz.ntmps247;go_wp2_with (first | (go_at_call 268;(refine (C.o _ _ g.o).mono ?_);rintro _ F ⟨rfl,q⟩;have g:=qh (g.o.trans (q.mono g.o.size));clear q;obtain⟨t,x⟩:=o.o _ g.o) | (go_at_call 267;(refine (fits_any _ _ _).mono ?_);rintro _ E ⟨rfl,rfl⟩));go_ret2;exact⟨dC (by simp[zq,z.o,hn,D.o,s.o,y.o]),g.o⟩
theorem Xk (op:Int) (a b:Int) (r:List Int) (A:Option Addr) (c B:Nat) (w:World) (x:(a :: b :: r).length<=maxLen) (o:Reads w B 1 A (a :: b :: r).length (bF bd (a :: b :: r))) (t:B<=w.heap.size) (p:op=4\/op=5) :
  CS 247 #[bc bd op,bf A (a :: b :: r).length c] w (.tuple #[bc bd (zq op (a :: b :: r)).1,bc bd (zq op (a :: b :: r)).2]):=by
 obtain⟨q,n,rfl,y,d⟩:=o.plain (by simp);have s:=qh (show ∀ g,EG w g->g.cell? ⟨q,n,none⟩=some (bc bd a)/\g.cell? ⟨q,n+1,none⟩=some (bc bd b) from λ g i=>⟨Below.cell_of i (d 0 _ rfl),Below.cell_of i (d 1 _ rfl)⟩);generalize h:a :: b :: r=ks at *;have F:=qh (λ k w' (i:EG w w')=>lZ ks (some ⟨q,n,none⟩) c B k w' x (o.below (i.mono t)) (bj t i.size));have f:=qh (Below.refl w.heap.size w);have D:=qh (show yf ks 0=a/\yf ks 1=b from by rw[<- h];exact⟨rfl,rfl⟩);have I:2<=ks.length:=by rw[<- h];simp
 clear o d h;cases hn:allB ks 2
 all_goals
  rcases p with rfl | rfl
  all_goals
   obtain⟨l,m⟩:=s.o _ f.o;go_enter Tryz.func247,Tryz.ntmps247;go_upto_region 10 with (first | (go_at_call 268;(refine (F.o _ _ f.o).mono ?_);rintro _ v ⟨rfl,u⟩;have f:=qh (f.o.trans (u.mono f.o.size));clear u l m;obtain⟨l,m⟩:=s.o _ f.o) | (go_at_call 267;(refine (fits_any _ _ _).mono ?_);rintro _ H ⟨rfl,rfl⟩));have G:=Later.cell l;have z:=Later.cell m;have C:=qh (λ E k=>Later.call (yF E k v));clear l m;refine aO (by kernel_rfl) (by kernel_rfl) ?_
   repeat (go_big_quiet_step (with_reducible exact C.o _ _ _))
   refine wpQuiet_nil ?_;intro J j;have f:=qh (f.o.trans ((jg j).mono f.o.size));clear j G z;go_wp2;go_ret2;exact⟨dC (by simp[zq,D.o,hn]),f.o⟩
theorem Xl (op:Int) (a b:Int) (r:List Int) (A:Option Addr) (c B:Nat) (w:World) (x:(a :: b :: r).length<=maxLen) (o:Reads w B 1 A (a :: b :: r).length (bF bd (a :: b :: r))) (t:B<=w.heap.size) (p:op=27) :
  CS 247 #[bc bd op,bf A (a :: b :: r).length c] w (.tuple #[bc bd (zq op (a :: b :: r)).1,bc bd (zq op (a :: b :: r)).2]):=by
 obtain⟨q,n,rfl,y,d⟩:=o.plain (by simp);have s:=qh (show ∀ g,EG w g->g.cell? ⟨q,n,none⟩=some (bc bd a)/\g.cell? ⟨q,n+1,none⟩=some (bc bd b) from λ g i=>⟨Below.cell_of i (d 0 _ rfl),Below.cell_of i (d 1 _ rfl)⟩);generalize h:a :: b :: r=ks at *;have F:=qh (λ k w' (i:EG w w')=>lZ ks (some ⟨q,n,none⟩) c B k w' x (o.below (i.mono t)) (bj t i.size));have f:=qh (Below.refl w.heap.size w);have D:=qh (show yf ks 0=a/\yf ks 1=b from by rw[<- h];exact⟨rfl,rfl⟩);have I:2<=ks.length:=by rw[<- h];simp
 clear o d h;cases hn:allB ks 2
 all_goals
  rcases p with rfl
  all_goals
   obtain⟨l,m⟩:=s.o _ f.o;go_enter Tryz.func247,Tryz.ntmps247;go_upto_region 31 with (first | (go_at_call 268;(refine (F.o _ _ f.o).mono ?_);rintro _ v ⟨rfl,u⟩;have f:=qh (f.o.trans (u.mono f.o.size));clear u l m;obtain⟨l,m⟩:=s.o _ f.o) | (go_at_call 267;(refine (fits_any _ _ _).mono ?_);rintro _ H ⟨rfl,rfl⟩));have G:=Later.cell l;have z:=Later.cell m;have C:=qh (λ E k=>Later.call (yF E k v));clear l m;refine aO (by kernel_rfl) (by kernel_rfl) ?_
   repeat (go_big_quiet_step (with_reducible exact C.o _ _ _))
   refine wpQuiet_nil ?_;intro J j;have f:=qh (f.o.trans ((jg j).mono f.o.size));clear j G z;go_wp2;go_ret2;exact⟨dC (by simp[zq,D.o,hn]),f.o⟩
theorem Xm (op:Int) (a b d:Int) (r:List Int) (A:Option Addr) (c B:Nat) (w:World) (z:(a :: b :: d :: r).length<=maxLen) (s:Reads w B 1 A (a :: b :: d :: r).length (bF bd (a :: b :: d :: r))) (v:B<=w.heap.size) (t:op=26) :
  CS 247 #[bc bd op,bf A (a :: b :: d :: r).length c] w (.tuple #[bc bd (zq op (a :: b :: d :: r)).1,bc bd (zq op (a :: b :: d :: r)).2]):=by
 obtain⟨q,n,rfl,C,f⟩:=s.plain (by simp);have u:=qh (show ∀ g,EG w g->g.cell? ⟨q,n,none⟩=some (bc bd a)/\g.cell? ⟨q,n+1,none⟩=some (bc bd b)/\g.cell? ⟨q,n+2,none⟩=some (bc bd d) from λ g j=>⟨Below.cell_of j (f 0 _ rfl),Below.cell_of j (f 1 _ rfl),Below.cell_of j (f 2 _ rfl)⟩);generalize i:a :: b :: d :: r=ks at *;have J:=qh (λ k w' (j:EG w w')=>lZ ks (some ⟨q,n,none⟩) c B k w' z (s.below (j.mono v)) (bj v j.size));have h:=qh (Below.refl w.heap.size w);have H:=qh (show yf ks 0=a/\yf ks 1=b/\yf ks 2=d from by rw[<- i];exact⟨rfl,rfl,rfl⟩);have M:3<=ks.length:=by rw[<- i];simp
 clear s f i;cases hn:allB ks 2 <;> cases h7:(a == 7)
 all_goals
  have F:=qh h7;rcases t with rfl
  all_goals
   obtain⟨m,o,p⟩:=u.o _ h.o;go_enter Tryz.func247,Tryz.ntmps247;go_upto_region 29 with (first | (go_at_call 268;(refine (J.o _ _ h.o).mono ?_);rintro _ y ⟨rfl,x⟩;have h:=qh (h.o.trans (x.mono h.o.size));clear x m o p;obtain⟨m,o,p⟩:=u.o _ h.o) | (go_at_call 267;(refine (fits_any _ _ _).mono ?_);rintro _ L ⟨rfl,rfl⟩));have K:=Later.cell m;have E:=Later.cell o;have D:=Later.cell p;have G:=qh (λ I k=>Later.call (yF I k y));clear m o p;refine aO (by kernel_rfl) (by kernel_rfl) ?_
   repeat (go_big_quiet_step (with_reducible exact G.o _ _ _))
   refine wpQuiet_nil ?_;intro N l;have h:=qh (h.o.trans ((jg l).mono h.o.size));clear l K E D;go_wp2;go_ret2;exact⟨dC (by simp[zq,H.o,hn,F.o]),h.o⟩
end Go.Proofs.YtcnagconagpkcaaGreatDoor
namespace Go.Proofs.YtcnagconagpkcaaGreatDoor
open Go.RowKit
theorem PW (op:Int) (f:List Int) (A:Option Addr) (c B:Nat) (w:World) (m:1<=op) (n:op<=39) (k:(jL op).1<=f.length/\f.length<=(jL op).2) (j:f.length<=maxLen) (g:Reads w B 1 A f.length (bF bd f)) (i:B<=w.heap.size) :
  CS 247 #[bc bd op,bf A f.length c] w (.tuple #[bc bd (zq op f).1,bc bd (zq op f).2]):=by
 by_cases ga:op=1\/op=2\/op=3\/op=6\/op=7\/op=8\/op=9\/op=12\/op=13\/op=14\/op=15\/op=16
 .exact Xg op f A c B w j g i ga
 by_cases gb:op=17\/op=18\/op=19\/op=20\/op=21\/op=22\/op=23\/op=30\/op=31\/op=32\/op=33\/op=34\/op=35
 .exact Xh op f A c B w j g i gb
 by_cases gc:op=36\/op=37\/op=38
 .exact Xi op f A c B w j g i gc
 have l:1<=(jL op).1/\(¬ (op=24\/op=25\/op=28\/op=29)->2<=(jL op).1):=by
  unfold jL;constructor
  .repeat' split
   all_goals omega
  .intro h
   repeat' split
   all_goals omega
 have k:=k.1
 match f with
 | []=>rw[List.length_nil] at k;omega
 | [a] =>
  by_cases gd:op=24\/op=25\/op=28\/op=29
  .exact MO op a [] A c B w j g i gd
  have:=l.2 gd;rw[List.length_singleton] at k;omega
 | a :: b :: r =>
  by_cases gd:op=24\/op=25\/op=28\/op=29
  .exact MO op a (b :: r) A c B w j g i gd
  by_cases ge:op=10\/op=11\/op=39
  .exact Xj op a b r A c B w j g i ge
  by_cases gf:op=4\/op=5
  .exact Xk op a b r A c B w j g i gf
  by_cases gg:op=27
  .exact Xl op a b r A c B w j g i gg
  obtain rfl:op=26:=by omega
  match r with
  | []=>exact absurd (show 3<=2 from k) (by decide)
  | d :: r=>exact Xm 26 a b d r A c B w j g i rfl
end Go.Proofs.YtcnagconagpkcaaGreatDoor
namespace Go.Proofs.YtcnagconagpkcaaGreatDoor
def EE (cells:List aY) (nm:ByteArray) (at_:List ByteArray):Int × Int:=match cells.find? (λ c=>decide (c.nm=nm) && og c.loops at_) with
 | some c=>(c.kind,0)
 | none=>(0,5)
def EF (loops:List bP) (nm:ByteArray) (at_:List ByteArray):Option (List ByteArray):=match loops.find? (λ n=>decide (n.nm=nm)) with
 | some n=>if og n.loops at_ then some (n.loops ++ [n.nm]) else none
 | none=>none
mutual
def Ex.kind (cells:List aY) (loops:List bP):Ex->List ByteArray->Int × Int
 | .mk k op nm v ar,at_ =>
  if k=1 then (v.k,0) else if k=2 then EE cells nm at_ else if k=3 then (if br at_ nm then (2,0) else (0,5)) else
  if k=5 then (match EF loops nm at_ with
   | none=>(0,5)
   | some at'=>MP cells loops ar at' op) else
  (match jA cells loops ar at_ [] with
   | (why,ks)=>if why≠0 then (0,why) else zq op ks)
def MP (cells:List aY) (loops:List bP):List Ex->List ByteArray->Int->Int × Int
 | [],_,_=>(0,0)
 | a :: _,at',op=>if (a.kind cells loops at').2≠0 then (0,(a.kind cells loops at').2) else IA op (a.kind cells loops at').1
def jA (cells:List aY) (loops:List bP):List Ex->List ByteArray->List Int->Int × List Int
 | [],_,ks=>(0,ks)
 | a :: r,at_,ks=>if (a.kind cells loops at_).2≠0 then ((a.kind cells loops at_).2,ks) else jA cells loops r at_ (ks ++ [(a.kind cells loops at_).1])
end
theorem zy (b:List aY) (a:List bP) (e:Ex) (at_:List ByteArray):e.kind b a at_ =
  if e.k=1 then (e.v.k,0) else if e.k=2 then EE b e.nm at_ else if e.k=3 then (if br at_ e.nm then (2,0) else (0,5)) else
  if e.k=5 then (match EF a e.nm at_ with
   | none=>(0,5)
   | some at'=>MP b a e.ar at' e.op) else
  (if (jA b a e.ar at_ []).1≠0 then (0,(jA b a e.ar at_ []).1) else zq e.op (jA b a e.ar at_ []).2):=by
 cases e;rw[Ex.kind];rfl
theorem MQ (b:List aY) (a:List bP) (ar:List Ex) (at_:List ByteArray) (c:List Int) (k:Nat) (h:k<ar.length):jA b a (ar.drop k) at_ c =
  if (ar[k].kind b a at_).2≠0 then ((ar[k].kind b a at_).2,c) else jA b a (ar.drop (k+1)) at_ (c ++ [(ar[k].kind b a at_).1]):=by
 rw[bt h,jA]
end Go.Proofs.YtcnagconagpkcaaGreatDoor
namespace Go.Proofs.YtcnagconagpkcaaGreatDoor
open Go.RowKit
attribute [local go_sem ↓] Go.wp_at_zero Go.wp_at_succ
structure RX (w:World) (B m1 m2:Nat) (mV mZ:List (ByteArray × Value)) (cells:List aY) (loops:List bP):Prop where
 c:aS w m1 mV
 cc:MI w B mV cells
 n:aS w m2 mZ
 nn:Lr w B mZ loops
theorem oO.up {w:World} {B B':Nat} {d:bP} {cs:List Value} (h:oO w B d cs) (i:B<=B'):oO w B' d cs:=by
 obtain⟨⟨A,c,e,a,f⟩,g,j,b⟩:=h;exact⟨⟨A,c,e,a.more i,f⟩,g,j,b⟩
theorem oP.up {w:World} {B B':Nat} {d:aY} {cs:List Value} (h:oP w B d cs) (i:B<=B'):oP w B' d cs:=by
 obtain⟨⟨A,c,e,a,f⟩,g,j,b⟩:=h;exact⟨⟨A,c,e,a.more i,f⟩,g,j,b⟩
theorem RX.keep {w w':World} {B d c:Nat} {e f:List (ByteArray × Value)} {a:List aY} {loops:List bP} (h:RX w B d c e f a loops) (b:EG w w') (g:B<=w.heap.size):RX w' B d c e f a loops:=
 ⟨h.c.below b h.c.lt,h.cc.keep (b.mono g),h.n.below b h.n.lt,h.nn.keep (b.mono g)⟩
theorem RX.up {w:World} {B B' m i:Nat} {l j:List (ByteArray × Value)} {a:List aY} {loops:List bP} (h:RX w B m i l j a loops) (k:B<=B'):RX w B' m i l j a loops:=
 ⟨h.c,⟨h.cc.no,λ s v b=>by obtain⟨d,cs,f,g,c,e⟩:=h.cc.yes s v b;exact⟨d,cs,f,g,c,e.up k⟩,h.cc.len,h.cc.one⟩,h.n,
  ⟨h.nn.no,λ s v b=>by obtain⟨d,cs,f,g,c,e⟩:=h.nn.yes s v b;exact⟨d,cs,f,g,c,e.up k⟩,h.nn.len,h.nn.one⟩⟩
theorem Bi {α:Type} {f:α->Bool} {l:List α} (h:∀ d∈l,f d=false):l.find? f=none:=by
 rw[bA];intro d a;rw[h d a];decide
theorem Uf {w:World} {B:Nat} {b:List (ByteArray × Value)} {l:List aY} (h:MI w B b l) (s:ByteArray) (at_:List ByteArray) :
  (gz b s=none/\EE l s at_=(0,5))\/∃ d cs,gz b s=some (.agg cs.toArray)/\oP w B d cs/\d∈l/\EE l s at_=if og d.loops at_ then (d.kind,0) else (0,5):=by
 cases hg:gz b s with
 | none =>
  refine .inl ⟨rfl,?_⟩;unfold EE;rw[Bi (λ d k=>by have:=h.no s hg d k;simp[this])]
 | some v =>
  obtain⟨d,cs,e,g,i,j⟩:=h.yes s v hg;refine .inr ⟨d,cs,by rw[i],j,e,?_⟩;unfold EE;cases hb:og d.loops at_ with
  | false =>
   rw[Bi (λ x a=>by
    by_cases hq:x.nm=s
    .have:=Jw (f:=aY.nm) h.one a e (by rw[hq,g]);subst this;simp[hb]
    .simp[hq])]
   rfl
  | true =>
   cases hf:l.find? (λ c=>decide (c.nm=s) && og c.loops at_) with
   | none=>exact absurd (bA.1 hf d e) (by simp[g,hb])
   | some x =>
    have a:=bO hf;rw[Bool.and_eq_true,decide_eq_true_iff] at a;have:=Jw (f:=aY.nm) h.one (bR hf) e (by rw[a.1,g]);subst this;rfl
theorem Ug {w:World} {B:Nat} {a:List (ByteArray × Value)} {l:List bP} (h:Lr w B a l) (s:ByteArray) (at_:List ByteArray) :
  (gz a s=none/\EF l s at_=none)\/∃ d cs,gz a s=some (.agg cs.toArray)/\oO w B d cs/\d∈l/\EF l s at_=if og d.loops at_ then some (d.loops ++ [d.nm]) else none:=by
 cases hg:gz a s with
 | none =>
  refine .inl ⟨rfl,?_⟩;unfold EF;rw[Bi (λ d j=>by have:=h.no s hg d j;simp[this])]
 | some v =>
  obtain⟨d,cs,b,e,g,i⟩:=h.yes s v hg;refine .inr ⟨d,cs,by rw[g],i,b,?_⟩;unfold EF;cases hf:l.find? (λ n=>decide (n.nm=s)) with
  | none=>exact absurd (bA.1 hf d b) (by simp[e])
  | some x =>
   have c:=bO hf;rw[decide_eq_true_iff] at c;have:=Jw (f:=bP.nm) h.one (bR hf) b (by rw[c,e]);subst this;rfl
theorem aa6 (e:Ex) (b:List aY) (a:List bP) (p:e.k=1) (x s:List (ByteArray × Value)) (f d B:Nat) (at_:List ByteArray) (A:Option Addr) (c:Nat) (cs:List Value) (w:World) (l:aQ w B e cs) (z:RX w B f d x s b a) (M:at_.length<=maxLen) (n:dB w B A at_) (F:at_.length<=c) (y:B<=w.heap.size) :
  CS 218 #[.agg #[.map (some f),.map (some d)],.agg cs.toArray,bf A at_.length c] w (.tuple #[bc bd (e.kind b a at_).1,bc bd (e.kind b a at_).2]):=by
 have q:=qh l;obtain⟨E,K,I,r,l,v,t⟩:=l;rename_i j i h k cs;have C:=qh (show e.kind b a at_=(e.v.k,0) by rw[zy,if_pos p]);have u:(e.k == 1)=true:=by rw[p];rfl
 clear l v t z n y p;show Calls Tryz.prog 218 #[.agg #[.map (some f),.map (some d)],.agg (BC e j i h e.ar.length k),bf A at_.length c] w _;go_enter Tryz.func218,Tryz.ntmps218;go_upto_region 1 with (fail);obtain⟨W,g⟩:=aH (((w.alloc (bh #[.map (some f),.map (some d)] 162 (0,0))).alloc (.cells (BC e j i h e.ar.length k) 67 (0,0))));have m:EG w W:=by rw[g];exact (((Below.refl _ w).alloc (bl _) _).alloc (by simp) _)
 have B0:ag W (w.heap.size) 162 #[.map (some f),.map (some d)]:=by
  rw[g];have:=ag.new w 162 #[.map (some f),.map (some d)];have:=this.alloc (.cells (BC e j i h e.ar.length k) 67 (0,0));exact this
 have B1:ag W (w.heap.size+1) 67 (BC e j i h e.ar.length k):=by
  rw[g];have:=ag.new (w.alloc (bh #[.map (some f),.map (some d)] 162 (0,0))) 67 (BC e j i h e.ar.length k)
  rwa [bm] at this
 have o:W.heap.size=w.heap.size+2:=by rw[g];simp
 rw[<- g];clear g o;obtain⟨G,O,N,L,Q,H,P,J⟩:=ag.c8 B1;clear B0 B1;go_wp2_with fail;go_ret2;exact⟨by rw[C.o];rfl,m⟩
theorem aa7 (e:Ex) (b:List aY) (a:List bP) (n:e.k=3) (H C:List (ByteArray × Value)) (g d B:Nat) (at_:List ByteArray) (A:Option Addr) (c:Nat) (cs:List Value) (w:World) (o:aQ w B e cs) (J:RX w B g d H C b a) (I:at_.length<=maxLen) (k:dB w B A at_) (O:at_.length<=c) (t:B<=w.heap.size) :
  CS 218 #[.agg #[.map (some g),.map (some d)],.agg cs.toArray,bf A at_.length c] w (.tuple #[bc bd (e.kind b a at_).1,bc bd (e.kind b a at_).2]):=by
 have y:=qh o;obtain⟨N,U,R,z,o,E,D⟩:=o;rename_i l j i m cs;have u:=qh (show e.kind b a at_=if br at_ e.nm then (2,0) else (0,5) by rw[zy,if_neg (by omega),if_neg (by omega),if_pos n]);have K:(e.k == 1)=false:=by rw[n];rfl
 have L:(e.k == 2)=false:=by rw[n];rfl
 have M:(e.k == 3)=true:=by rw[n];rfl
 obtain⟨q,v⟩:=af (br at_ e.nm);have r:=qh v;have G:=qh (λ w' (F:EG w w')=>uX A c B at_ e.nm w' I (k.below (F.mono t)));clear o E D J k t v n;show Calls Tryz.prog 218 #[.agg #[.map (some g),.map (some d)],.agg (BC e l j i e.ar.length m),bf A at_.length c] w _;go_enter Tryz.func218,Tryz.ntmps218;go_upto_region 1 with (fail);obtain⟨W,h⟩:=aH (((w.alloc (bh #[.map (some g),.map (some d)] 162 (0,0))).alloc (.cells (BC e l j i e.ar.length m) 67 (0,0))));have f:EG w W:=by rw[h];exact (((Below.refl _ w).alloc (bl _) _).alloc (by simp) _)
 have B0:ag W (w.heap.size) 162 #[.map (some g),.map (some d)]:=by
  rw[h];have:=ag.new w 162 #[.map (some g),.map (some d)];have:=this.alloc (.cells (BC e l j i e.ar.length m) 67 (0,0));exact this
 have B1:ag W (w.heap.size+1) 67 (BC e l j i e.ar.length m):=by
  rw[h];have:=ag.new (w.alloc (bh #[.map (some g),.map (some d)] 162 (0,0))) 67 (BC e l j i e.ar.length m)
  rwa [bm] at this
 have s:W.heap.size=w.heap.size+2:=by rw[h];simp
 rw[<- h];clear h s;obtain⟨P,Y,X,V,iR,Q,Z,S⟩:=ag.c8 B1;clear B0 B1;go_wp2_with fail;refine (G.o W f).mono ?_;rw[r.o];rintro x T ⟨rfl,rfl⟩;cases q
 .have p:=qh (show e.kind b a at_=(0,5) by rw[u.o,r.o];rfl);go_wp2_with fail;go_ret2;exact⟨by rw[p.o];rfl,f⟩
 .have p:=qh (show e.kind b a at_=(2,0) by rw[u.o,r.o];rfl);go_wp2_with fail;go_ret2;exact⟨by rw[p.o];rfl,f⟩
theorem aa8 (e:Ex) (a:List aY) (b:List bP) (F:e.k=2) (mV mZ:List (ByteArray × Value)) (l m B:Nat) (at_:List ByteArray) (A:Option Addr) (c:Nat) (cs:List Value) (w:World) (G:aQ w B e cs) (N:RX w B l m mV mZ a b) (ha:at_.length<=maxLen) (v:dB w B A at_) (hc:at_.length<=c) (V:B<=w.heap.size) :
  CS 218 #[.agg #[.map (some l),.map (some m)],.agg cs.toArray,bf A at_.length c] w (.tuple #[bc bd (e.kind a b at_).1,bc bd (e.kind a b at_).2]):=by
 have ak:=qh G;obtain⟨Z,hs,hl,ad,G,hr,hi⟩:=G;rename_i D p u x cs;have O:=qh (show e.kind a b at_=EE a e.nm at_ by rw[zy,if_neg (by omega),if_pos F]);have aa:(e.k == 1)=false:=by rw[F];rfl
 have ab:(e.k == 2)=true:=by rw[F];rfl
 have T:=qh Z;have z:=qh N;have i:=qh (bk ha (bk v (bk hc V)));have HN:=qh (Uf N.cc e.nm at_);clear G hr hi N v V F;show Calls Tryz.prog 218 #[.agg #[.map (some l),.map (some m)],.agg (BC e D p u e.ar.length x),bf A at_.length c] w _;go_enter Tryz.func218,Tryz.ntmps218;go_upto_region 1 with (fail);obtain⟨W,o⟩:=aH (((w.alloc (bh #[.map (some l),.map (some m)] 162 (0,0))).alloc (.cells (BC e D p u e.ar.length x) 67 (0,0))));have j:EG w W:=by rw[o];exact (((Below.refl _ w).alloc (bl _) _).alloc (by simp) _)
 have B0:ag W (w.heap.size) 162 #[.map (some l),.map (some m)]:=by
  rw[o];have:=ag.new w 162 #[.map (some l),.map (some m)];have:=this.alloc (.cells (BC e D p u e.ar.length x) 67 (0,0));exact this
 have B1:ag W (w.heap.size+1) 67 (BC e D p u e.ar.length x):=by
  rw[o];have:=ag.new (w.alloc (bh #[.map (some l),.map (some m)] 162 (0,0))) 67 (BC e D p u e.ar.length x)
  rwa [bm] at this
 have I:W.heap.size=w.heap.size+2:=by rw[o];simp
 rw[<- o];clear o I;obtain⟨iK,iL,iM,iQ,iR,iT,iU,iC⟩:=ag.c8 B1;clear B1;have P:=qh (z.o.c.below j z.o.c.lt);have ac:W.cell? ⟨w.heap.size,0,none⟩=some (.map (some l)):=B0.cell 0;rcases HN.o with ⟨C,r⟩ | ⟨d,ds,C,hd,ae,r⟩
 .skip
  have n:(bo 159 (.map (some l)) (be e.nm) true).run Tryz.prog W = .ok (.tuple #[.agg #[be ⟨#[]⟩,bc bd 0,bf none 0 0],bi false]) W:=by
   have h:=P.o.look Tryz.underlying159 (zeroCell W) T.o;rw[C] at h;exact h
  have E:=qh r;clear r C;go_upto_region 6 with (fail);obtain⟨W2,g⟩:=aH (W.alloc (bh #[be ⟨#[]⟩,bc bd 0,bf none 0 0] 51 (0,0)));have k:EG W W2:=g▸(Below.refl _ W).alloc (bl _) _;have f:=j.trans (k.mono j.size);have B2:ag W2 W.heap.size 51 #[be ⟨#[]⟩,bc bd 0,bf none 0 0]:=g▸ag.new W _ _;rw[<- g];clear g n;have t:=qh (show e.kind a b at_=(0,5) by rw[O.o,E.o]);clear k B2;go_wp2_with (fail);go_ret2;exact⟨by rw[t.o];rfl,f⟩
 .obtain⟨⟨A',c',rfl,S,al⟩,am,s,L⟩:=hd;have R:=qh (bk S s);clear S s L;have n:(bo 159 (.map (some l)) (be e.nm) true).run Tryz.prog W = .ok (.tuple #[.agg #[be d.nm,bc bd d.kind,bf A' d.loops.length c'],bi true]) W:=by
   have h:=P.o.look Tryz.underlying159 (zeroCell W) T.o;rw[C] at h;exact h
  have E:=qh r;clear r C;go_upto_region 6 with (fail);obtain⟨W2,g⟩:=aH (W.alloc (bh #[be d.nm,bc bd d.kind,bf A' d.loops.length c'] 51 (0,0)));have k:EG W W2:=g▸(Below.refl _ W).alloc (bl _) _;have f:=j.trans (k.mono j.size);have B2:ag W2 W.heap.size 51 #[be d.nm,bc bd d.kind,bf A' d.loops.length c']:=g▸ag.new W _ _;rw[<- g];clear g n;obtain⟨q,J⟩:=af (og d.loops at_);have U:=qh J;have H:=qh (show Calls Tryz.prog 245 #[bf A' d.loops.length c',bf A at_.length c] W2 λ e K=>e = .returned (bi q)/\EG W2 K by
   have h:=yc d.loops at_ A' c' A c B W2 R.o.2 i.o.1 (R.o.1.below (f.mono i.o.2.2.2)) (i.o.2.1.below (f.mono i.o.2.2.2)) i.o.2.2.1 (bj i.o.2.2.2 f.size);rw[J] at h;exact h)
  have y:=qh B2;have xO:W2.cell? ⟨W.heap.size,0,none⟩=some (be d.nm):=B2.cell 0;have xP:W2.cell? ⟨W.heap.size,1,none⟩=some (bc bd d.kind):=B2.cell 1;have G6:W2.cell? ⟨W.heap.size,2,none⟩=some (bf A' d.loops.length c'):=B2.cell 2;clear k J B2;go_wp2_with fail;refine H.o.mono ?_;rintro Y W9 ⟨rfl,M⟩;have Q:=f.trans (M.mono f.size);have X:=y.o.below M y.o.lt;clear xO xP G6;have v1:W9.cell? ⟨W.heap.size,1,none⟩=some (bc bd d.kind):=X.cell 1;clear M X;cases q
  .have t:=qh (show e.kind a b at_=(0,5) by rw[O.o,E.o,U.o];rfl);go_wp2_with fail;go_ret2;exact⟨by rw[t.o];rfl,Q⟩
  .have t:=qh (show e.kind a b at_=(d.kind,0) by rw[O.o,E.o,U.o];rfl);go_wp2_with fail;go_ret2;exact⟨by rw[t.o];rfl,Q⟩
end Go.Proofs.YtcnagconagpkcaaGreatDoor
