/- Lemmas. -/
import Derived.Test.YtcnagconagpkcaaGreatDoorZ2
import Derived.Lib.ItoaNum
import Derived.Lib.Replace
import Derived.Lib.IndexMore
open Go.Value renaming int->a9, string->bb, slice->bc, pointer->bd, bool->bf
open Go.IntKind renaming i64->ba
open Go.Obj renaming cells->be
open Nat renaming le_trans->bg, le_refl->bi, zero_le->bo, eq_zero_or_pos->bN, min_eq_left->bO, mul_le_mul_right->bR, pow_succ->bX, strongRecOn->b0
open And renaming intro->bh
open Go.Lib renaming decDigits->bj, containsS->bS
open Go.World renaming size_alloc->bk
open List renaming take_succ_eq_append_getElem->bl, length_take->bp, drop_eq_getElem_cons->bq, length_take_le'->br, take_of_length_le->bs, mem_append->bt, mem_singleton->bv, eq_nil_of_length_eq_zero->bw, foldl_cons->bx, isPrefixOf->bA, drop_eq_nil_of_le->bB, getElem_mem->bE, any_eq_true->bL, replicate->b2, cons_append->b3, length_pos_iff->b6
open Int renaming tdiv_eq_ediv_of_nonneg->bm, lt_trichotomy->b4, neg_tdiv->b5
open Bool renaming false_eq_true->bz
set_option maxHeartbeats 8000000
set_option maxRecDepth 100000
namespace Go.Proofs.YtcnagconagpkcaaGreatDoor
open Tryz
open Tryz renaming prog->lM
section
open Go.RowKit
theorem zeroCell (w:World):(zeroValue 51).run lM w = .ok (.agg #[bb ⟨#[]⟩,a9 ba 0,bc none 0 0]) w:=by kernel_rfl
theorem endW {f:Func} {s t:Tmp} {tmps:Array Value} {w a:World} {g b:Nat} {l c1 a0 a1 n:Value} {Q:Ending->World->Prop} (r:f.results = #[.cell s 162,.tmp t]) (o:tmps[s]?.getD undef = bd (some ⟨g,0,none⟩)) (k:tmps[t]?.getD undef=n) (B:ah a g 162 #[l,c1]) (q:Below b w a) (e:b<=g) (h:∀ W,W=(a.setCell ⟨g,0,none⟩ a0).setCell ⟨g,1,none⟩ a1->Below b w W->Q (.returned (.tuple #[.agg #[a0,a1],n])) W) :
  bodyPost lM f Q Exit.ret { tmps:=tmps,defers:=[] } ((a.setCell ⟨g,0,none⟩ a0).setCell ⟨g,1,none⟩ a1):=by
 obtain⟨W,c⟩:=aG ((a.setCell ⟨g,0,none⟩ a0).setCell ⟨g,1,none⟩ a1);have d:ah W g 162 #[a0,a1]:=c▸((B.bP 0 _).bP 1 _);have i:=h W c (c▸((q.setCell (p:=⟨g,0,none⟩) e _).setCell (p:=⟨g,1,none⟩) e _));rw[<- c];have j:W.cell? ⟨g,0,none⟩=some a0:=d.cell 0;have m:W.cell? ⟨g,1,none⟩=some a1:=d.cell 1;exact bodyPost_ret (v:=.tuple #[.agg #[a0,a1],n]) (by simp[results,r,go_sem,o,k,j,m]) rfl i
structure WoR (en:Ending) (w w':World) (B:Nat) (cells:List bu) (loops:List bU):Prop where
 ex:∃ f:Int,en = .returned (.tuple #[.agg #[.map (some (w.heap.size+1)),.map (some (w.heap.size+1+1))],a9 ba f])/\f=fO cells loops/\(f=0->∃ lC lI,aO w' (w.heap.size+1) lC/\aO w' (w.heap.size+1+1) lI/\MO w' B lC cells/\Lr w' B lI loops)
 hb:DD w w'
theorem MS (cells:List bu) (loops:List bU) (AC:Option Addr) (cc:Nat) (AN:Option Addr) (cn B:Nat) (w:World) (hC:eX w B AC cells) (hN:qj w B AN loops) (D:B<=w.heap.size) :
  Calls lM 75 #[bc AC cells.length cc,bc AN loops.length cn] w λ en w'=>WoR en w w' B cells loops:=by
 have aw:=qh hC;have a0:=qh hN;have a3:=hC.1;have a2:=hN.1;unfold maxLen at a3 a2;have MV:=qh (bh hC.1 hN.1);clear hC hN;have a8:=@run_makeMap lM;go_enter func75,ntmps75;go_wp2;obtain⟨W,hW⟩:=aG ((((w.alloc (be #[.map none,.map none] 162 (0,0))).alloc (.map #[] 0)).alloc (.map #[] 0)).alloc (be #[.map (some (w.heap.size+1)),.map (some (w.heap.size+1+1))] 162 (0,0)));rw[<- hW];clear a8;have a:DD w W:=hW▸((((Below.refl _ w).alloc (bi _) _).alloc (by simp) _).alloc (by simp;try omega) _).alloc (by simp;try omega) _;have BR:ah W w.heap.size 162 #[.map none,.map none]:=hW▸(((ah.new w _ _).alloc _).alloc _).alloc _;have m:ah W (w.heap.size+1+1+1) 162 #[.map (some (w.heap.size+1)),.map (some (w.heap.size+1+1))]:=by
  rw[hW];have:=ah.new (((w.alloc (be #[.map none,.map none] 162 (0,0))).alloc (.map #[] 0)).alloc (.map #[] 0)) 162 #[.map (some (w.heap.size+1)),.map (some (w.heap.size+1+1))]
  rwa [bk,bk,bk] at this
 have XA:=qh (show aO W (w.heap.size+1) [] by
  rw[hW];have:=((aO.made (w.alloc (be #[.map none,.map none] 162 (0,0)))).alloc (.map #[] 0)).alloc (be #[.map (some (w.heap.size+1)),.map (some (w.heap.size+1+1))] 162 (0,0))
  rwa [bk] at this)
 have Xd:=qh (show aO W (w.heap.size+1+1) [] by
  rw[hW];have:=(aO.made ((w.alloc (be #[.map none,.map none] 162 (0,0))).alloc (.map #[] 0))).alloc (be #[.map (some (w.heap.size+1)),.map (some (w.heap.size+1+1))] 162 (0,0))
  rwa [bk,bk] at this)
 have y:=qh (bh BR m);clear hW BR m;go_loopw [22] (λ i wr=>∃ (k:Nat) (lC:List (ByteArray × Value)),k<=cells.length/\i = a9 ba k/\Hid (fM bZ [] cells=fM bZ (cells.take k) (cells.drop k))/\Hid (aO wr (w.heap.size+1) lC/\MO wr B lC (cells.take k))/\Hid (aO wr (w.heap.size+1+1) [])/\Hid (ah wr (w.heap.size) 162 #[.map none,.map none]/\ah wr (w.heap.size+1+1+1) 162 #[.map (some (w.heap.size+1)),.map (some (w.heap.size+1+1))])/\DD w wr) (λ i _=>cells.length - (intOf i).toNat)
 case atStart=>exact⟨0,[],bo _,rfl,qh rfl,qh ⟨XA.o,MO.nil _ _⟩,Xd,y,a⟩
 case round =>
  obtain⟨k,lC,hk,rfl,HD,F,R,y,q⟩:=hrel;have G:=q.size;have Aq:=q.mono D;have al:w.heap.size+1+1+1<wr.heap.size:=y.o.2.lt;by_cases hlt:k<cells.length
  .obtain⟨ad,ci,rfl,hb,C,e⟩:=(aw.o.keep Aq).at_ hlt;obtain⟨d,Q⟩:=af (cells[k]);have DI:=qh (show fM bZ [] cells=if bZ (cells.take k) d≠0 then bZ (cells.take k) d else fM bZ (cells.take (k+1)) (cells.drop (k+1)) by
    rw[HD.o,bq hlt,Q,fM,bl hlt,Q])
   have ag:=qh (show cells.take (k+1)=cells.take k ++ [d] by rw[bl hlt,Q]);rw[Q] at C;have aV:=qh hlt;have qV:=qh C;obtain⟨⟨A,c,rfl,MR,N⟩,E,P,O⟩:=C;have qi:wr.cell? (ad.add (k*3))=some (bb d.nm):=e 0 _ rfl;have qW:wr.cell? ⟨(ad.add (k*3)).block,(ad.add (k*3)).off+1,none⟩=some (a9 ba d.kind):=e 1 _ rfl;have xE:wr.cell? ⟨(ad.add (k*3)).block,(ad.add (k*3)).off+2,none⟩=some (bc A d.loops.length c):=e 2 _ rfl;have Cf:=qh (bh MR (bh N (bh P O)));clear e Q MR N P O;go_wp2_with fail;obtain⟨W1,n⟩:=aG (wr.alloc (be #[bb d.nm,a9 ba d.kind,bc A d.loops.length c] 51 (0,0)));have b:DD wr W1:=n▸(Below.refl _ wr).alloc (bi _) _;have t:ah W1 wr.heap.size 51 #[bb d.nm,a9 ba d.kind,bc A d.loops.length c]:=n▸ah.new wr _ _;rw[<- n];have a:=q.trans (b.mono G);have BR:=y.o.1.below b y.o.1.lt;have m:=y.o.2.below b y.o.2.lt;have z:=qh (bh (F.o.1.below b F.o.1.lt) (F.o.2.keep (b.mono (bg D G))));have Qc:=qh (qV.o.keep (b.mono (bg D G)));obtain⟨bn,l⟩:=af (aP d.nm.data.toList);have V:=qh l;clear l qi qW xE;refine (jE d.nm W1 E).mono ?_;rw[V.o];rintro en w2 ⟨rfl,rfl⟩;obtain⟨I,L,H,J⟩:=ah.z2 BR;obtain⟨o,K⟩:=ah.c2 m;have X:W1.cell? ⟨wr.heap.size,0,none⟩=some (bb d.nm):=t.cell 0;have xq:W1.cell? ⟨wr.heap.size,1,none⟩=some (a9 ba d.kind):=t.cell 1;have G8:W1.cell? ⟨wr.heap.size,2,none⟩=some (bc A d.loops.length c):=t.cell 2;cases bn
   .have S:=qh (show fO cells loops=5 by
     have h:=DI.o;rw[if_pos (by unfold bZ;rw[if_pos V.o];decide)] at h;unfold fO;rw[if_pos (by rw[h];unfold bZ;rw[if_pos V.o];decide),h];unfold bZ;rw[if_pos V.o])
    clear n;go_wp2;exact endW rfl rfl rfl BR a (bi _) λ W9 _ Z=>⟨⟨5,rfl,S.o.symm,λ h=>by cases h⟩,Z⟩
   cases u:di lC d.nm with
   | some v =>
    obtain⟨d',a4,ak,ae,rfl,ap⟩:=F.o.2.yes _ _ u;obtain⟨⟨A2,c2,rfl,-,-⟩,-,-,-⟩:=ap;have U:(Instr.lookup 159 (.map (some (w.heap.size+1))) (bb d.nm) true).run lM W1 = .ok (.tuple #[.agg #[bb d'.nm,a9 ba d'.kind,bc A2 d'.loops.length c2],bf true]) W1:=by
     have h:=z.o.1.look underlying159 (zeroCell W1) E;rw[u] at h;exact h
    have S:=qh (show fO cells loops=6 by
     have ac:(cells.take k).any (λ x=>decide (x.nm=d.nm))=true:=Ik (f:=bu.nm) ak ae;have hf:bZ (cells.take k) d=6:=by unfold bZ;rw[if_neg (by rw[V.o];simp),if_pos ac]
     have h:=DI.o;rw[hf,if_pos (by decide)] at h;unfold fO;rw[if_pos (by rw[h];decide),h])
    clear u ak ae n;go_upto_region 8 with (fail);obtain⟨W2,r⟩:=aG (W1.alloc (be #[bb d'.nm,a9 ba d'.kind,bc A2 d'.loops.length c2] 51 (0,0)));have j:DD W1 W2:=r▸(Below.refl _ W1).alloc (bi _) _;rw[<- r];have a:=a.trans (j.mono a.size);have BR:=BR.below j BR.lt;have m:=m.below j m.lt;clear r j U I L H J o K X xq G8;obtain⟨I,L,H,J⟩:=ah.z2 BR;obtain⟨o,K⟩:=ah.c2 m;go_wp2;exact endW rfl rfl rfl BR a (bi _) λ W9 _ Z=>⟨⟨6,rfl,S.o.symm,λ h=>by cases h⟩,Z⟩
   | none =>
    have U:(Instr.lookup 159 (.map (some (w.heap.size+1))) (bb d.nm) true).run lM W1 = .ok (.tuple #[.agg #[bb ⟨#[]⟩,a9 ba 0,bc none 0 0],bf false]) W1:=by
     have h:=z.o.1.look underlying159 (zeroCell W1) E;rw[u] at h;exact h
    have HG:=qh u;have XB:=qh (show (cells.take k).any (λ x=>decide (x.nm=d.nm))=false from MP (f:=bu.nm) (z.o.2.no _ u));clear u n;go_upto_region 8 with (fail);obtain⟨W2,r⟩:=aG (W1.alloc (be #[bb ⟨#[]⟩,a9 ba 0,bc none 0 0] 51 (0,0)));have j:DD W1 W2:=r▸(Below.refl _ W1).alloc (bi _) _;rw[<- r];have a:=a.trans (j.mono a.size);have BR:=BR.below j BR.lt;have m:=m.below j m.lt;have t:=t.below j t.lt;have Au:=qh (bh (z.o.1.below j z.o.1.lt) (z.o.2.keep (j.mono (bg D (bg G b.size)))));have XC:=qh (Qc.o.keep (j.mono (bg D (bg G b.size))));have aL:wr.heap.size<W2.heap.size:=t.lt;have T:=b.trans (j.mono b.size);clear r U I L H J o K X xq G8 z Qc;obtain⟨I,L,H,J⟩:=ah.z2 BR;obtain⟨o,K⟩:=ah.c2 m;have X:W2.cell? ⟨wr.heap.size,0,none⟩=some (bb d.nm):=t.cell 0;have xq:W2.cell? ⟨wr.heap.size,1,none⟩=some (a9 ba d.kind):=t.cell 1;have G8:W2.cell? ⟨wr.heap.size,2,none⟩=some (bc A d.loops.length c):=t.cell 2;obtain⟨ok,ax⟩:=af (aW d.kind 2 7);have ao:=qh ax;clear ax;go_wp2_with fail;refine (bG d.kind 2 7 W2).mono ?_;rw[ao.o];rintro en w3 ⟨rfl,rfl⟩;cases ok;rotate_left
    .have S:=qh (show fO cells loops=4 by
      have hf:bZ (cells.take k) d=4:=by unfold bZ;rw[if_neg (by rw[V.o];simp),if_neg (by rw[XB.o];simp),if_pos ao.o]
      have h:=DI.o;rw[hf,if_pos (by decide)] at h;unfold fO;rw[if_pos (by rw[h];decide),h])
     go_wp2;exact endW rfl rfl rfl BR a (bi _) λ W9 _ Z=>⟨⟨4,rfl,S.o.symm,λ h=>by cases h⟩,Z⟩
    have HZ:=qh (show bZ (cells.take k) d=0 by unfold bZ;rw[if_neg (by rw[V.o];simp),if_neg (by rw[XB.o];simp),if_neg (by rw[ao.o];simp)]);go_wp2_with (at_mapUpdate;refine iT rfl _ _ _ 159 51 rfl underlying159 rfl Au.o.1 ?c1 rfl rfl ?c2 ?_)
    case c1 =>
     have h1:=Au.o.2.len;have h2:(cells.take k).length<=cells.length:=br _ _;rw[h1];unfold maxLen;have:=aV.o;rw[bp];omega
    case c2=>exact E
    intro W3 am s;have aZ:W2.heap.size<=W3.heap.size:=s.size;have a6:B<=w.heap.size+1:=by omega
    have an:DD w W3:=a.grown s a.size (λ g u=>by injection u with u;omega);have M:Below B W2 W3:=((Below.refl B W2).grown s (by omega) (λ g u=>by injection u with u;omega));have ar:=qh (show aO W3 (w.heap.size+1) _/\MO W3 B _ (cells.take (k+1)) from ⟨am,by rw[ag.o];exact (Au.o.2.keep M).add (XC.o.keep M) HG.o⟩);have aq:=qh (show ah W3 (w.heap.size) 162 #[.map none,.map none]/\ah W3 (w.heap.size+1+1+1) 162 #[.map (some (w.heap.size+1)),.map (some (w.heap.size+1+1))] from ⟨BR.grown s (by simp;try omega),m.grown s (by simp;try omega)⟩);have Hg:=qh ((R.o.below T R.o.lt).kept s (by simp;try omega));have Y:=qh (show fM bZ [] cells=fM bZ (cells.take (k+1)) (cells.drop (k+1)) by rw[DI.o,if_neg (by rw[HZ.o];simp)]);clear s M I L H J o K X xq G8;go_wp2;go_roundw
    case rel=>exact⟨k+1,_,aV.o,by go_num,Y,ar,Hg,aq,an⟩
    case measure =>
     have:=aV.o;simp[intOf];omega
  .have ab:cells.take k=cells:=bs (by omega);have UD:=qh (show fM bZ [] cells=0 by rw[HD.o,bB (by omega)];rfl);rw[ab] at F;clear ab;have Dn:=qh (show aO wr (w.heap.size+1+1) [] from R.o);have Jv:=qh F.o;have a:=q;clear HD;go_wp2;go_loopw [53] (λ i wr=>∃ (k:Nat) (lI:List (ByteArray × Value)),k<=loops.length/\i = a9 ba k/\Hid (fM cO [] loops=fM cO (loops.take k) (loops.drop k))/\Hid (aO wr (w.heap.size+1+1) lI/\Lr wr B lI (loops.take k))/\Hid (aO wr (w.heap.size+1) lC/\MO wr B lC cells)/\Hid (ah wr (w.heap.size) 162 #[.map none,.map none]/\ah wr (w.heap.size+1+1+1) 162 #[.map (some (w.heap.size+1)),.map (some (w.heap.size+1+1))])/\DD w wr) (λ i _=>loops.length - (intOf i).toNat)
   case atStart=>exact⟨0,[],bo _,rfl,qh rfl,qh ⟨Dn.o,Lr.nil _ _⟩,Jv,y,a⟩
   case round =>
    clear Jv Dn F R y q Aq al G a;obtain⟨k,lI,hk,rfl,HD,F,R,y,q⟩:=hrel;have G:=q.size;have Aq:=q.mono D;have al:w.heap.size+1+1+1<wr.heap.size:=y.o.2.lt;by_cases hlt:k<loops.length
    .obtain⟨ad,ci,rfl,hb,C,e⟩:=(a0.o.keep Aq).at_ hlt;obtain⟨d,Q⟩:=af (loops[k]);have DI:=qh (show fM cO [] loops=if cO (loops.take k) d≠0 then cO (loops.take k) d else fM cO (loops.take (k+1)) (loops.drop (k+1)) by
      rw[HD.o,bq hlt,Q,fM,bl hlt,Q])
     have ag:=qh (show loops.take (k+1)=loops.take k ++ [d] by rw[bl hlt,Q]);rw[Q] at C;have aV:=qh hlt;have qV:=qh C;obtain⟨⟨A,c,rfl,MR,N⟩,E,P,O⟩:=C;have qi:wr.cell? (ad.add (k*2))=some (bb d.nm):=e 0 _ rfl;have qW:wr.cell? ⟨(ad.add (k*2)).block,(ad.add (k*2)).off+1,none⟩=some (bc A d.loops.length c):=e 1 _ rfl;have Cf:=qh (bh MR (bh N (bh P O)));clear e Q MR N P O;go_wp2_with fail;obtain⟨W1,n⟩:=aG (wr.alloc (be #[bb d.nm,bc A d.loops.length c] 184 (0,0)));have b:DD wr W1:=n▸(Below.refl _ wr).alloc (bi _) _;have t:ah W1 wr.heap.size 184 #[bb d.nm,bc A d.loops.length c]:=n▸ah.new wr _ _;rw[<- n];have a:=q.trans (b.mono G);have BR:=y.o.1.below b y.o.1.lt;have m:=y.o.2.below b y.o.2.lt;have z:=qh (bh (F.o.1.below b F.o.1.lt) (F.o.2.keep (b.mono (bg D G))));have Qc:=qh (qV.o.keep (b.mono (bg D G)));obtain⟨bn,l⟩:=af (aP d.nm.data.toList);have V:=qh l;clear l qi qW;refine (jE d.nm W1 E).mono ?_;rw[V.o];rintro en w2 ⟨rfl,rfl⟩;obtain⟨I,L,H,J⟩:=ah.z2 BR;obtain⟨o,K⟩:=ah.c2 m;obtain⟨X,xq⟩:=ah.c2 t;cases bn
     .have S:=qh (show fO cells loops=5 by
       have h:=DI.o;rw[if_pos (by unfold cO;rw[if_pos V.o];decide)] at h;unfold fO;rw[if_neg (by rw[UD.o];simp),if_pos (by rw[h];unfold cO;rw[if_pos V.o];decide),h];unfold cO;rw[if_pos V.o])
      clear n;go_wp2;exact endW rfl rfl rfl BR a (bi _) λ W9 _ Z=>⟨⟨5,rfl,S.o.symm,λ h=>by cases h⟩,Z⟩
     cases u:di lI d.nm with
     | some v =>
      obtain⟨d',a4,ak,ae,rfl,ap⟩:=F.o.2.yes _ _ u;obtain⟨⟨A2,c2,rfl,-,-⟩,-,-,-⟩:=ap;have U:(Instr.lookup 160 (.map (some (w.heap.size+1+1))) (bb d.nm) true).run lM W1 = .ok (.tuple #[.agg #[bb d'.nm,bc A2 d'.loops.length c2],bf true]) W1:=by
       have h:=z.o.1.look underlying160 (qZ W1) E;rw[u] at h;exact h
      have S:=qh (show fO cells loops=6 by
       have ac:(loops.take k).any (λ x=>decide (x.nm=d.nm))=true:=Ik (f:=bU.nm) ak ae;have hf:cO (loops.take k) d=6:=by unfold cO;rw[if_neg (by rw[V.o];simp),if_pos ac]
       have h:=DI.o;rw[hf,if_pos (by decide)] at h;unfold fO;rw[if_neg (by rw[UD.o];simp),if_pos (by rw[h];decide),h])
      clear u ak ae n;go_upto_region 20 with (fail);obtain⟨W2,r⟩:=aG (W1.alloc (be #[bb d'.nm,bc A2 d'.loops.length c2] 184 (0,0)));have j:DD W1 W2:=r▸(Below.refl _ W1).alloc (bi _) _;rw[<- r];have a:=a.trans (j.mono a.size);have BR:=BR.below j BR.lt;have m:=m.below j m.lt;clear r j U I L H J o K X xq;obtain⟨I,L,H,J⟩:=ah.z2 BR;obtain⟨o,K⟩:=ah.c2 m;go_wp2;exact endW rfl rfl rfl BR a (bi _) λ W9 _ Z=>⟨⟨6,rfl,S.o.symm,λ h=>by cases h⟩,Z⟩
     | none =>
      have U:(Instr.lookup 160 (.map (some (w.heap.size+1+1))) (bb d.nm) true).run lM W1 = .ok (.tuple #[.agg #[bb ⟨#[]⟩,bc none 0 0],bf false]) W1:=by
       have h:=z.o.1.look underlying160 (qZ W1) E;rw[u] at h;exact h
      have HG:=qh u;have XB:=qh (show (loops.take k).any (λ x=>decide (x.nm=d.nm))=false from MP (f:=bU.nm) (z.o.2.no _ u));clear u n;go_upto_region 20 with (fail);obtain⟨W2,r⟩:=aG (W1.alloc (be #[bb ⟨#[]⟩,bc none 0 0] 184 (0,0)));have j:DD W1 W2:=r▸(Below.refl _ W1).alloc (bi _) _;rw[<- r];have a:=a.trans (j.mono a.size);have BR:=BR.below j BR.lt;have m:=m.below j m.lt;have t:=t.below j t.lt;have Au:=qh (bh (z.o.1.below j z.o.1.lt) (z.o.2.keep (j.mono (bg D (bg G b.size)))));have XC:=qh (Qc.o.keep (j.mono (bg D (bg G b.size))));have aL:wr.heap.size<W2.heap.size:=t.lt;have T:=b.trans (j.mono b.size);clear r U I L H J o K X xq z Qc;obtain⟨I,L,H,J⟩:=ah.z2 BR;obtain⟨o,K⟩:=ah.c2 m;obtain⟨X,xq⟩:=ah.c2 t;obtain⟨nb,aa⟩:=af (jy (loops.take k) d.loops);have XD:=qh aa;clear aa;go_wp2_with fail;refine (xR d.loops A c (w.heap.size+1) (w.heap.size+1+1) B lI (loops.take k) W2 Cf.o.2.2.1 Cf.o.2.2.2 (Cf.o.1.below (T.mono (bg D G))) Cf.o.2.1 (by omega) Au.o.1 Au.o.2).mono ?_;rw[XD.o];rintro en W4 ⟨rfl,l⟩;have a:=a.trans (l.mono a.size);have BR:=BR.below l BR.lt;have m:=m.below l m.lt;have t:=t.below l t.lt;have Au:=qh (bh (Au.o.1.below l Au.o.1.lt) (Au.o.2.keep (l.mono (by omega))));have XC:=qh (XC.o.keep (l.mono (by omega)));have aL:wr.heap.size<W4.heap.size:=t.lt;have T:=T.trans (l.mono (by omega));clear l I L H J o K X xq;obtain⟨I,L,H,J⟩:=ah.z2 BR;obtain⟨o,K⟩:=ah.c2 m;obtain⟨X,xq⟩:=ah.c2 t;cases nb
      .have S:=qh (show fO cells loops=7 by
        have hf:cO (loops.take k) d=7:=by unfold cO;rw[if_neg (by rw[V.o];simp),if_neg (by rw[XB.o];simp),if_pos XD.o]
        have h:=DI.o;rw[hf,if_pos (by decide)] at h;unfold fO;rw[if_neg (by rw[UD.o];simp),if_pos (by rw[h];decide),h])
       go_wp2;exact endW rfl rfl rfl BR a (bi _) λ W9 _ Z=>⟨⟨7,rfl,S.o.symm,λ h=>by cases h⟩,Z⟩
      have HZ:=qh (show cO (loops.take k) d=0 by unfold cO;rw[if_neg (by rw[V.o];simp),if_neg (by rw[XB.o];simp),if_neg (by rw[XD.o];simp)]);go_wp2_with (at_mapUpdate;refine iT rfl _ _ _ 160 184 rfl underlying160 rfl Au.o.1 ?c1 rfl rfl ?c2 ?_)
      case c1 =>
       have h1:=Au.o.2.len;have h2:(loops.take k).length<=loops.length:=br _ _;rw[h1];unfold maxLen;have:=aV.o;rw[bp];omega
      case c2=>exact E
      intro W3 am s;have aZ:W4.heap.size<=W3.heap.size:=s.size;have a6:B<=w.heap.size+1+1:=by omega
      have an:DD w W3:=a.grown s a.size (λ g u=>by injection u with u;omega);have M:Below B W4 W3:=((Below.refl B W4).grown s (by omega) (λ g u=>by injection u with u;omega));have ar:=qh (show aO W3 (w.heap.size+1+1) _/\Lr W3 B _ (loops.take (k+1)) from ⟨am,by rw[ag.o];exact (Au.o.2.keep M).add (XC.o.keep M) HG.o⟩);have aq:=qh (show ah W3 (w.heap.size) 162 #[.map none,.map none]/\ah W3 (w.heap.size+1+1+1) 162 #[.map (some (w.heap.size+1)),.map (some (w.heap.size+1+1))] from ⟨BR.grown s (by simp;try omega),m.grown s (by simp;try omega)⟩);have Hg:=qh (bh ((R.o.1.below T (R.o.1.lt)).kept s (by simp;try omega)) ((R.o.2.keep (T.mono (bg D G))).keep M));have Y:=qh (show fM cO [] loops=fM cO (loops.take (k+1)) (loops.drop (k+1)) by rw[DI.o,if_neg (by rw[HZ.o];simp)]);clear s M I L H J o K X xq;go_wp2;go_roundw
      case rel=>exact⟨k+1,_,aV.o,by go_num,Y,ar,Hg,aq,an⟩
      case measure =>
       have:=aV.o;simp[intOf];omega
    .have ab:loops.take k=loops:=bs (by omega);have aE:=qh (show fM cO [] loops=0 by rw[HD.o,bB (by omega)];rfl);rw[ab] at F;clear ab;have aM:True:=trivial;clear aM;go_wp2;go_loopw [86] (λ i wr=>∃ k:Nat,k<=cells.length/\i = a9 ba k/\Hid (∀ x∈cells.take k,jy loops x.loops=true)/\Hid (aO wr (w.heap.size+1) lC/\MO wr B lC cells)/\Hid (aO wr (w.heap.size+1+1) lI/\Lr wr B lI loops)/\Hid (ah wr (w.heap.size) 162 #[.map none,.map none]/\ah wr (w.heap.size+1+1+1) 162 #[.map (some (w.heap.size+1)),.map (some (w.heap.size+1+1))])/\DD w wr) (λ i _=>cells.length - (intOf i).toNat)
     case atStart=>exact⟨0,bo _,rfl,qh (by simp),qh R.o,qh F.o,y,q⟩
     case round =>
      clear F R y q Aq al G;obtain⟨k,hk,rfl,Y,R,F,y,q⟩:=hrel;have G:=q.size;have Aq:=q.mono D;have al:w.heap.size+1+1+1<wr.heap.size:=y.o.2.lt;by_cases hlt:k<cells.length
      .obtain⟨ad,ci,rfl,hb,C,e⟩:=(aw.o.keep Aq).at_ hlt;obtain⟨d,Q⟩:=af (cells[k]);have ag:=qh (show cells.take (k+1)=cells.take k ++ [d] by rw[bl hlt,Q]);have Xe:=qh (show d∈cells by rw[<- Q];exact bE hlt);rw[Q] at C;have aV:=qh hlt;obtain⟨⟨A,c,rfl,MR,N⟩,E,P,O⟩:=C;have qi:wr.cell? (ad.add (k*3))=some (bb d.nm):=e 0 _ rfl;have qW:wr.cell? ⟨(ad.add (k*3)).block,(ad.add (k*3)).off+1,none⟩=some (a9 ba d.kind):=e 1 _ rfl;have xE:wr.cell? ⟨(ad.add (k*3)).block,(ad.add (k*3)).off+2,none⟩=some (bc A d.loops.length c):=e 2 _ rfl;have Cf:=qh (bh MR (bh N (bh P O)));clear e Q MR N P O;obtain⟨nb,aa⟩:=af (jy loops d.loops);have XD:=qh aa;clear aa;go_upto_region 29 with (fail);obtain⟨W1,n⟩:=aG (wr.alloc (be #[bb d.nm,a9 ba d.kind,bc A d.loops.length c] 51 (0,0)));have b:DD wr W1:=n▸(Below.refl _ wr).alloc (bi _) _;have t:ah W1 wr.heap.size 51 #[bb d.nm,a9 ba d.kind,bc A d.loops.length c]:=n▸ah.new wr _ _;rw[<- n];have a:=q.trans (b.mono G);have BR:=y.o.1.below b y.o.1.lt;have m:=y.o.2.below b y.o.2.lt;have Dn:=qh (bh (R.o.1.below b R.o.1.lt) (R.o.2.keep (b.mono (bg D G))));have z:=qh (bh (F.o.1.below b F.o.1.lt) (F.o.2.keep (b.mono (bg D G))));clear n qi qW xE;obtain⟨I,L,H,J⟩:=ah.z2 BR;obtain⟨o,K⟩:=ah.c2 m;have X:W1.cell? ⟨wr.heap.size,0,none⟩=some (bb d.nm):=t.cell 0;have xq:W1.cell? ⟨wr.heap.size,1,none⟩=some (a9 ba d.kind):=t.cell 1;have G8:W1.cell? ⟨wr.heap.size,2,none⟩=some (bc A d.loops.length c):=t.cell 2;go_wp2_with fail;refine (xR d.loops A c (w.heap.size+1) (w.heap.size+1+1) B lI loops W1 Cf.o.2.2.1 Cf.o.2.2.2 (Cf.o.1.below (b.mono (bg D G))) Cf.o.2.1 (bg D a.size) z.o.1 z.o.2).mono ?_;rw[XD.o];rintro en W4 ⟨rfl,l⟩;have a:=a.trans (l.mono a.size);have BR:=BR.below l BR.lt;have m:=m.below l m.lt;have sF:=qh (bh (Dn.o.1.below l Dn.o.1.lt) (Dn.o.2.keep (l.mono (by have:=b.size;omega))));have aR:=qh (bh (z.o.1.below l z.o.1.lt) (z.o.2.keep (l.mono (by have:=b.size;omega))));clear l b t I L H J o K X xq G8;obtain⟨I,L,H,J⟩:=ah.z2 BR;obtain⟨o,K⟩:=ah.c2 m;cases nb
       .have S:=qh (show fO cells loops=9 by
         unfold fO;rw[if_neg (by rw[UD.o];simp),if_neg (by rw[aE.o];simp),if_pos (bL.2 ⟨d,Xe.o,by rw[XD.o];rfl⟩)])
        go_wp2;exact endW rfl rfl rfl BR a (bi _) λ W9 _ Z=>⟨⟨9,rfl,S.o.symm,λ h=>by cases h⟩,Z⟩
       have a1:=qh (show ∀ x∈cells.take (k+1),jy loops x.loops=true by
        rw[ag.o];intro x hx;rcases bt.1 hx with h | h
        .exact Y.o x h
        .rw[bv] at h;rw[h];exact XD.o)
       have a5:=qh (bh BR m);clear BR m I L H J o K;go_wp2;go_roundw
       case rel=>exact⟨k+1,aV.o,by go_num,a1,sF,aR,a5,a⟩
       case measure =>
        have:=aV.o;simp[intOf];omega
      .have S:=qh (show fO cells loops=0 by
        have h:=Y.o;rw[bs (by omega)] at h;unfold fO;rw[if_neg (by rw[UD.o];simp),if_neg (by rw[aE.o];simp),if_neg];intro hc;obtain⟨x,hx,ay⟩:=bL.1 hc;rw[h x hx] at ay;cases ay)
       have BR:=y.o.1;have m:=y.o.2;have b:BR=BR:=rfl;clear b;obtain⟨I,L,H,J⟩:=ah.z2 BR;obtain⟨o,K⟩:=ah.c2 m;go_wp2;obtain⟨W9,gU⟩:=aG ((wr.setCell ⟨w.heap.size,0,none⟩ (.map (some (w.heap.size+1)))).setCell ⟨w.heap.size,1,none⟩ (.map (some (w.heap.size+1+1))));have B9:ah W9 (w.heap.size) 162 #[.map (some (w.heap.size+1)),.map (some (w.heap.size+1+1))]:=gU▸((BR.bP 0 _).bP 1 _);have dN:DD w W9:=gU▸((q.setCell (p:=⟨w.heap.size,0,none⟩) (bi _) _).setCell (p:=⟨w.heap.size,1,none⟩) (bi _) _);have aD:aO W9 (w.heap.size+1) lC/\MO W9 B lC cells:=gU▸⟨(R.o.1.setCell (p:=⟨w.heap.size,0,none⟩) (by show _≠w.heap.size;omega) _).setCell (p:=⟨w.heap.size,1,none⟩) (by show _≠w.heap.size;omega) _,R.o.2.keep (((Below.refl B wr).setCell (p:=⟨w.heap.size,0,none⟩) D _).setCell (p:=⟨w.heap.size,1,none⟩) D _)⟩;have av:aO W9 (w.heap.size+1+1) lI/\Lr W9 B lI loops:=gU▸⟨(F.o.1.setCell (p:=⟨w.heap.size,0,none⟩) (by show _≠w.heap.size;omega) _).setCell (p:=⟨w.heap.size,1,none⟩) (by show _≠w.heap.size;omega) _,F.o.2.keep (((Below.refl B wr).setCell (p:=⟨w.heap.size,0,none⟩) D _).setCell (p:=⟨w.heap.size,1,none⟩) D _)⟩;rw[<- gU];clear gU;obtain⟨jZ,a7⟩:=ah.c2 B9;exact bodyPost_ret (v:=.tuple #[.agg #[.map (some (w.heap.size+1)),.map (some (w.heap.size+1+1))],a9 ba 0]) (by simp[results,results75,go_sem,jZ,a7]) rfl ⟨⟨0,rfl,S.o.symm,λ _=>⟨lC,lI,aD.1,av.1,aD.2,av.2⟩⟩,dN⟩
attribute [local go_sem ↓] Go.wp_at_zero Go.wp_at_succ
def mZ (a b:List ByteArray):Bool:=decide (a.length<=b.length) && decide (a=b.take a.length)
theorem xG (a b:List ByteArray) (A:Option Addr) (c:Nat) (A':Option Addr) (c' B:Nat) (w:World) (k:a.length<=maxLen) (s:b.length<=maxLen) (r:dA w B A a) (o:dA w B A' b) (u:b.length<=c') (v:B<=w.heap.size) :
  CS 245 #[bc A a.length c,bc A' b.length c'] w (bf (mZ a b)):=by
 unfold mZ;by_cases hl:a.length<=b.length
 .have j:(a.length:Int)<=(b.length:Int):=by omega
  have m:a.length<=c':=by omega
  have d:(b.take a.length).length=a.length:=by rw[bp];omega
  have K:=qh (show Calls lM 16 #[bc A a.length c,bc A' a.length c'] w λ e n=>e = .returned (bf (decide (a=b.take a.length)))/\DD w n by
   have h:=sD A A' c c' B B a (b.take a.length) w k (by rw[d];exact k) r (o.take _);rw[d] at h;exact h)
  unfold maxLen at k s;rcases hA':A' with _ | ad
  .have g:b.length=0:=by
    rcases bN b.length with h | h
    .exact h
    .obtain⟨ad,e,-⟩:=o.2 h;rw[hA'] at e;cases e
   subst hA';have i:a.length=0:=by omega
   have q:=bw i;have t:=bw g;subst q t;clear hl d j m i g;go_enter func245,ntmps245;go_wp2_with fail;refine K.o.mono ?_;rintro e p ⟨rfl,f⟩;go_wp2_with fail;go_ret;exact⟨aH (by simp),f⟩
  .subst hA';have l:=qh hl;clear hl d;go_enter func245,ntmps245;go_wp2_with fail;refine K.o.mono ?_;rintro e p ⟨rfl,f⟩;go_wp2_with fail;go_ret;exact⟨aH (by rw[decide_eq_true l.o];simp),f⟩
 .have j:¬ (a.length:Int)<=(b.length:Int):=by omega
  have l:=qh hl;clear hl;go_enter func245,ntmps245;go_wp2_with fail;go_ret;exact⟨aH (by rw[decide_eq_false l.o];simp),Below.refl _ _⟩
theorem iQ {W w':World} (h:∃ p:Later W,w'=p.w):DD W w':=by
 obtain⟨p,rfl⟩:=h;exact p.h
theorem aF.take {α:Type} {P:World->Nat->α->List Value->Prop} {size B:Nat} {w:World} {A:Option Addr} {l:List α} (h:aF P size w B A l) (k:Nat):aF P size w B A (l.take k):=by
 obtain⟨o,cs,c,n⟩:=h;have b:(l.take k).length<=l.length:=br _ _;refine⟨bg b o,cs.take ((l.take k).length*size),⟨by rw[bp,c.1];exact bO (bR _ b),λ q=>?_⟩,λ i d=>?_⟩
 .obtain⟨ad,e,m,p⟩:=c.2 (by omega);refine⟨ad,e,m,λ j u a=>p j u ?_⟩;rw[List.getElem?_take] at a;split at a
  .exact a
  .cases a
 .have g:=n i (by omega);have f:i*size+size<=(l.take k).length*size:=by rw[<- Nat.succ_mul];exact bR _ d
  rw[List.drop_take,List.take_take,bO (by omega),List.getElem_take];exact g
end
section
open Go.RowKit
def og (ok:Bool) (k:Int):Int × Int:=if ok then (k,0) else (0,8)
theorem fits_any (a:Bool) (k:Int) (w:World) :
  E5 267 #[bf a,a9 ba k] w (.tuple #[a9 ba (og a k).1,a9 ba (og a k).2]):=by
 cases a
 all_goals
  go_enter func267,ntmps267;go_wp2;go_ret2;exact⟨rfl,rfl⟩
theorem XE (b:Nat) (k:Int) (w:World) (a:w.cell? ⟨b,0,none⟩=some (a9 ba k)) (x:Int) :
  E5 282 #[a9 ba x,bd (some ⟨b,0,none⟩)] w (bf (x != k)):=by
 go_enter func282,ntmps282;go_wp2;go_ret;exact⟨rfl,rfl⟩
theorem abZ (b:Nat) (k:Int) (w:World) (d:w.cell? ⟨b,0,none⟩=some (a9 ba k)):PredAt lM 282 #[bd (some ⟨b,0,none⟩)] (λ x:Int=>.int ba x) (λ x=>x != k) w:=by
 intro W x e;exact (XE b k W (Below.cell_of e d) x).mono λ _ _ ⟨a,c⟩=>⟨a,0,c▸rfl⟩
theorem Qd {w:World} {b o:Nat} {l:List Int} (h:∀ j u,(bK ba l)[j]?=some u->w.cell? ⟨b,o+j,none⟩=some u):∀ j,j<l.length->w.cell? ⟨b,o+j,none⟩=some (a9 ba l[j]!):=by
 intro j a;refine h j _ ?_;unfold bK;rw[List.getElem?_map,List.getElem?_eq_getElem a];simp[a]
def allB (ks:List Int) (k:Int):Bool:=ks.all (λ x=>decide (x=k))
theorem ab1 (a:List Int) (k:Int):allB a k=!(a.any (λ x=>x != k)):=by
 unfold allB;rw[Bool.eq_iff_iff];simp
theorem XF (a:List Int) (A:Option Addr) (c B:Nat) (b:Nat) (k:Int) (w:World) (m:a.length<=maxLen) (i:Reads w B 1 A a.length (bK ba a)) (n:w.cell? ⟨b,0,none⟩=some (a9 ba k)) :
  CS 281 #[bc A a.length c,.func (.func 282) #[] #[bd (some ⟨b,0,none⟩)]] w (bf (!allB a k)):=by
 unfold maxLen at m;rw[ab1,Bool.not_not];rcases bN a.length with f | f
 .have h:=bw f;subst h;exact (Tryz.slices_ContainsFunc_empty (α:=Int) A c _ w).mono λ _ _ ⟨d,g⟩=>⟨d,g▸Below.refl _ _⟩
 .obtain⟨b1,j,rfl,-,l⟩:=i.plain f;refine (Tryz.slices_ContainsFunc (α:=Int) (λ x=>.int ba x) (λ x=>x != k) 282 _ (enters_of func282 (by kernel_rfl) rfl) b1 j a.length c a w (abZ b k w n) (bi _) (by omega) (Qd l)).mono λ _ _ ⟨d,q,g⟩=>⟨by rw[d,List.take_length],g▸(Below.refl _ _).drewN q⟩
theorem kT (b:List Int) (A:Option Addr) (c B:Nat) (k:Int) (w:World) (l:b.length<=maxLen) (i:Reads w B 1 A b.length (bK ba b)) (j:B<=w.heap.size) :
  CS 268 #[bc A b.length c,a9 ba k] w (bf (allB b k)):=by
 have h:=qh (bh i j);clear i j;go_enter func268,ntmps268;go_wp2_with fail;obtain⟨W,d⟩:=aG ((w.alloc (be #[a9 ba k] 3 (0,0))));have a:DD w W:=by rw[d];exact ((Below.refl _ w).alloc (bi _) _)
 have B0:ah W (w.heap.size) 3 #[a9 ba k]:=by
  rw[d];have:=ah.new w 3 #[a9 ba k];exact this
 have g:W.heap.size=w.heap.size+1:=by rw[d];simp
 rw[<- d];clear d g;refine (XF b A c B w.heap.size k W l (h.o.1.below (a.mono h.o.2)) (B0.cell 0)).mono ?_;rintro e m ⟨rfl,f⟩;have a:=a.trans (f.mono a.size);go_wp2;go_ret;exact⟨aH (by simp),a⟩
def Il (op k:Int):Int × Int:=if op=1 then og (decide (k=2)) 2 else if op=2 then og (decide (k=7)) 2 else if op=3\/op=4 then og (decide (k=7)) 7 else og (decide (k=2) || decide (k=6)) k
theorem Jw (op k:Int) (w:World) (b:1<=op) (a:op<=6) :
  E5 246 #[a9 ba op,a9 ba k] w (.tuple #[a9 ba (Il op k).1,a9 ba (Il op k).2]):=by
 obtain rfl | rfl | rfl | rfl | rfl | rfl:op=1\/op=2\/op=3\/op=4\/op=5\/op=6:=by omega
 all_goals
  go_enter func246,ntmps246;go_wp2_with (go_at_call 267;refine (fits_any _ _ _).mono ?_;rintro e w' ⟨rfl,rfl⟩)
  all_goals
   go_ret2;exact⟨dC (by simp_all[Il,og]),rfl⟩
attribute [local go_sem ↓] Go.wp_at_zero Go.wp_at_succ
theorem xU (a:Bool) (k:Int) (W:World):∀ w':World,DD W w'->CS 267 #[bf a,a9 ba k] w' (.tuple #[a9 ba (og a k).1,a9 ba (og a k).2]):=
 λ w' _=>(fits_any a k w').mono λ _ _ ⟨b,c⟩=>⟨b,c▸Below.refl _ _⟩
def xH (ks:List Int) (i:Nat):Int:=ks.getD i 0
def yL (op:Int) (ks:List Int):Int × Int:=
 if op=1\/op=2\/op=3 then og (allB ks 7) 7 else
 if op=4\/op=5 then og (xH ks 0 == xH ks 1) 7 else
 if op=6\/op=7\/op=8\/op=9 then og (allB ks 2 || allB ks 6) 7 else
 if op=10 then og (xH ks 0 == 4 && xH ks 1 == 5) 7 else if op=11 then og (xH ks 0 == 5 && xH ks 1 == 4) 7 else
 if op=12\/op=13 then (7,0) else if op=14 then (2,0) else
 if op=24\/op=25 then og (allB ks 2 || allB ks 6) (xH ks 0) else
 if op=26 then og (xH ks 0 == 7 && xH ks 1 == xH ks 2) (xH ks 1) else if op=27 then og (xH ks 0 == xH ks 1) (xH ks 0) else
 if op=28 then og (xH ks 0 == 5 || xH ks 0 == 3) 2 else if op=29 then og (xH ks 0 == 4) 2 else
 if op=30\/op=31 then og (allB ks 3) 3 else if op=32\/op=33 then og (allB ks 3) 7 else
 if op=34\/op=35\/op=36\/op=37\/op=38 then og (allB ks 6) 2 else
 if op=39 then og (xH ks 0 == 6 && xH ks 1 == 2) 6 else og (allB ks 2) 2
theorem XG (op:Int) (a:List Int) (A:Option Addr) (c B:Nat) (w:World) (l:a.length<=maxLen) (g:Reads w B 1 A a.length (bK ba a)) (i:B<=w.heap.size) (d:op=1\/op=2\/op=3\/op=6\/op=7\/op=8\/op=9\/op=12\/op=13\/op=14\/op=15\/op=16) :
  CS 247 #[a9 ba op,bc A a.length c] w (.tuple #[a9 ba (yL op a).1,a9 ba (yL op a).2]):=by
 have j:=qh (λ k w' (h:DD w w')=>kT a A c B k w' l (g.below (h.mono i)) (bg i h.size));have b:=qh (Below.refl w.heap.size w);clear g;cases hn:allB a 2
 all_goals
  rcases d with rfl | rfl | rfl | rfl | rfl | rfl | rfl | rfl | rfl | rfl | rfl | rfl
  all_goals
   go_enter func247,ntmps247;go_wp2_with (first | (go_at_call 268;(refine (j.o _ _ b.o).mono ?_);rintro _ m ⟨rfl,f⟩;have b:=qh (b.o.trans (f.mono b.o.size));clear f) | (go_at_call 267;(refine (fits_any _ _ _).mono ?_);rintro _ n ⟨rfl,rfl⟩));go_ret2;exact⟨dC (by simp_all[yL,xH]),b.o⟩
theorem XH (op:Int) (a:List Int) (A:Option Addr) (c B:Nat) (w:World) (l:a.length<=maxLen) (g:Reads w B 1 A a.length (bK ba a)) (i:B<=w.heap.size) (d:op=17\/op=18\/op=19\/op=20\/op=21\/op=22\/op=23\/op=30\/op=31\/op=32\/op=33\/op=34\/op=35) :
  CS 247 #[a9 ba op,bc A a.length c] w (.tuple #[a9 ba (yL op a).1,a9 ba (yL op a).2]):=by
 have j:=qh (λ k w' (h:DD w w')=>kT a A c B k w' l (g.below (h.mono i)) (bg i h.size));have b:=qh (Below.refl w.heap.size w);clear g;cases hn:allB a 2
 all_goals
  rcases d with rfl | rfl | rfl | rfl | rfl | rfl | rfl | rfl | rfl | rfl | rfl | rfl | rfl
  all_goals
   go_enter func247,ntmps247;go_wp2_with (first | (go_at_call 268;(refine (j.o _ _ b.o).mono ?_);rintro _ m ⟨rfl,f⟩;have b:=qh (b.o.trans (f.mono b.o.size));clear f) | (go_at_call 267;(refine (fits_any _ _ _).mono ?_);rintro _ n ⟨rfl,rfl⟩));go_ret2;exact⟨dC (by simp_all[yL,xH]),b.o⟩
theorem XI (op:Int) (a:List Int) (A:Option Addr) (c B:Nat) (w:World) (l:a.length<=maxLen) (g:Reads w B 1 A a.length (bK ba a)) (i:B<=w.heap.size) (d:op=36\/op=37\/op=38) :
  CS 247 #[a9 ba op,bc A a.length c] w (.tuple #[a9 ba (yL op a).1,a9 ba (yL op a).2]):=by
 have j:=qh (λ k w' (h:DD w w')=>kT a A c B k w' l (g.below (h.mono i)) (bg i h.size));have b:=qh (Below.refl w.heap.size w);clear g;cases hn:allB a 2
 all_goals
  rcases d with rfl | rfl | rfl
  all_goals
   go_enter func247,ntmps247;go_wp2_with (first | (go_at_call 268;(refine (j.o _ _ b.o).mono ?_);rintro _ m ⟨rfl,f⟩;have b:=qh (b.o.trans (f.mono b.o.size));clear f) | (go_at_call 267;(refine (fits_any _ _ _).mono ?_);rintro _ n ⟨rfl,rfl⟩));go_ret2;exact⟨dC (by simp_all[yL,xH]),b.o⟩
theorem MX (op:Int) (a:Int) (r:List Int) (A:Option Addr) (c B:Nat) (w:World) (x:(a :: r).length<=maxLen) (i:Reads w B 1 A (a :: r).length (bK ba (a :: r))) (p:B<=w.heap.size) (j:op=24\/op=25\/op=28\/op=29) :
  CS 247 #[a9 ba op,bc A (a :: r).length c] w (.tuple #[a9 ba (yL op (a :: r)).1,a9 ba (yL op (a :: r)).2]):=by
 obtain⟨n,o,rfl,u,b⟩:=i.plain (by simp);have l:=qh (show ∀ d,DD w d->d.cell? ⟨n,o,none⟩=some (a9 ba a) from λ d h=>Below.cell_of h (b 0 _ rfl));generalize f:a :: r=ks at *;have v:=qh (λ k w' (h:DD w w')=>kT ks (some ⟨n,o,none⟩) c B k w' x (i.below (h.mono p)) (bg p h.size));have g:=qh (Below.refl w.heap.size w);have s:=qh (show xH ks 0=a from by rw[<- f];rfl);have C:1<=ks.length:=by rw[<- f];simp
 clear i b f;cases hn:allB ks 2 <;> cases h5:(a == 5)
 all_goals
  have t:=qh h5;rcases j with rfl | rfl | rfl | rfl
  all_goals
   have q:=l.o _ g.o;go_enter func247,ntmps247;go_wp2_with (first | (go_at_call 268;(refine (v.o _ _ g.o).mono ?_);rintro _ y ⟨rfl,m⟩;have g:=qh (g.o.trans (m.mono g.o.size));clear m;have q:=l.o _ g.o) | (go_at_call 267;(refine (fits_any _ _ _).mono ?_);rintro _ z ⟨rfl,rfl⟩));go_ret2;exact⟨dC (by simp[yL,s.o,hn,t.o]),g.o⟩
theorem XJ (op:Int) (a b:Int) (r:List Int) (A:Option Addr) (c B:Nat) (w:World) (C:(a :: b :: r).length<=maxLen) (l:Reads w B 1 A (a :: b :: r).length (bK ba (a :: b :: r))) (q:B<=w.heap.size) (n:op=10\/op=11\/op=39) :
  CS 247 #[a9 ba op,bc A (a :: b :: r).length c] w (.tuple #[a9 ba (yL op (a :: b :: r)).1,a9 ba (yL op (a :: b :: r)).2]):=by
 obtain⟨j,m,rfl,x,d⟩:=l.plain (by simp);have o:=qh (show ∀ f,DD w f->f.cell? ⟨j,m,none⟩=some (a9 ba a)/\f.cell? ⟨j,m+1,none⟩=some (a9 ba b) from λ f i=>⟨Below.cell_of i (d 0 _ rfl),Below.cell_of i (d 1 _ rfl)⟩);generalize g:a :: b :: r=ks at *;have z:=qh (λ k w' (i:DD w w')=>kT ks (some ⟨j,m,none⟩) c B k w' C (l.below (i.mono q)) (bg q i.size));have h:=qh (Below.refl w.heap.size w);have u:=qh (show xH ks 0=a/\xH ks 1=b from by rw[<- g];exact⟨rfl,rfl⟩);have F:2<=ks.length:=by rw[<- g];simp
 clear l d g;cases hn:allB ks 2 <;> cases h4:(a == 4) <;> cases h5:(a == 5) <;> cases h6:(a == 6)
 all_goals
  have t:=qh h4;have v:=qh h5;have y:=qh h6;rcases n with rfl | rfl | rfl
  all_goals
   obtain⟨s,c1⟩:=o.o _ h.o;go_enter func247,ntmps247;go_wp2_with (first | (go_at_call 268;(refine (z.o _ _ h.o).mono ?_);rintro _ D ⟨rfl,p⟩;have h:=qh (h.o.trans (p.mono h.o.size));clear p;obtain⟨s,c1⟩:=o.o _ h.o) | (go_at_call 267;(refine (fits_any _ _ _).mono ?_);rintro _ E ⟨rfl,rfl⟩));go_ret2;exact⟨dC (by simp[yL,u.o,hn,t.o,v.o,y.o]),h.o⟩
theorem XK (op:Int) (a b:Int) (r:List Int) (A:Option Addr) (c B:Nat) (w:World) (F:(a :: b :: r).length<=maxLen) (n:Reads w B 1 A (a :: b :: r).length (bK ba (a :: b :: r))) (t:B<=w.heap.size) (p:op=4\/op=5) :
  CS 247 #[a9 ba op,bc A (a :: b :: r).length c] w (.tuple #[a9 ba (yL op (a :: b :: r)).1,a9 ba (yL op (a :: b :: r)).2]):=by
 obtain⟨m,o,rfl,y,d⟩:=n.plain (by simp);have q:=qh (show ∀ g,DD w g->g.cell? ⟨m,o,none⟩=some (a9 ba a)/\g.cell? ⟨m,o+1,none⟩=some (a9 ba b) from λ g j=>⟨Below.cell_of j (d 0 _ rfl),Below.cell_of j (d 1 _ rfl)⟩);generalize h:a :: b :: r=ks at *;have E:=qh (λ k w' (j:DD w w')=>kT ks (some ⟨m,o,none⟩) c B k w' F (n.below (j.mono t)) (bg t j.size));have f:=qh (Below.refl w.heap.size w);have x:=qh (show xH ks 0=a/\xH ks 1=b from by rw[<- h];exact⟨rfl,rfl⟩);have I:2<=ks.length:=by rw[<- h];simp
 clear n d h;cases hn:allB ks 2
 all_goals
  rcases p with rfl | rfl
  all_goals
   obtain⟨l,c1⟩:=q.o _ f.o;go_enter func247,ntmps247;go_upto_region 10 with (first | (go_at_call 268;(refine (E.o _ _ f.o).mono ?_);rintro _ v ⟨rfl,s⟩;have f:=qh (f.o.trans (s.mono f.o.size));clear s l c1;obtain⟨l,c1⟩:=q.o _ f.o) | (go_at_call 267;(refine (fits_any _ _ _).mono ?_);rintro _ H ⟨rfl,rfl⟩));have u:=Later.cell l;have z:=Later.cell c1;have D:=qh (λ C k=>Later.call (xU C k v));clear l c1;refine aU (by kernel_rfl) (by kernel_rfl) ?_
   repeat (go_big_quiet_step (with_reducible exact D.o _ _ _))
   refine wpQuiet_nil ?_;intro G i;have f:=qh (f.o.trans ((iQ i).mono f.o.size));clear i u z;go_wp2;go_ret2;exact⟨dC (by simp[yL,x.o,hn]),f.o⟩
theorem XL (op:Int) (a b:Int) (r:List Int) (A:Option Addr) (c B:Nat) (w:World) (F:(a :: b :: r).length<=maxLen) (n:Reads w B 1 A (a :: b :: r).length (bK ba (a :: b :: r))) (t:B<=w.heap.size) (p:op=27) :
  CS 247 #[a9 ba op,bc A (a :: b :: r).length c] w (.tuple #[a9 ba (yL op (a :: b :: r)).1,a9 ba (yL op (a :: b :: r)).2]):=by
 obtain⟨m,o,rfl,y,d⟩:=n.plain (by simp);have q:=qh (show ∀ g,DD w g->g.cell? ⟨m,o,none⟩=some (a9 ba a)/\g.cell? ⟨m,o+1,none⟩=some (a9 ba b) from λ g j=>⟨Below.cell_of j (d 0 _ rfl),Below.cell_of j (d 1 _ rfl)⟩);generalize h:a :: b :: r=ks at *;have E:=qh (λ k w' (j:DD w w')=>kT ks (some ⟨m,o,none⟩) c B k w' F (n.below (j.mono t)) (bg t j.size));have f:=qh (Below.refl w.heap.size w);have x:=qh (show xH ks 0=a/\xH ks 1=b from by rw[<- h];exact⟨rfl,rfl⟩);have I:2<=ks.length:=by rw[<- h];simp
 clear n d h;cases hn:allB ks 2
 all_goals
  rcases p with rfl
  all_goals
   obtain⟨l,c1⟩:=q.o _ f.o;go_enter func247,ntmps247;go_upto_region 31 with (first | (go_at_call 268;(refine (E.o _ _ f.o).mono ?_);rintro _ v ⟨rfl,s⟩;have f:=qh (f.o.trans (s.mono f.o.size));clear s l c1;obtain⟨l,c1⟩:=q.o _ f.o) | (go_at_call 267;(refine (fits_any _ _ _).mono ?_);rintro _ H ⟨rfl,rfl⟩));have u:=Later.cell l;have z:=Later.cell c1;have D:=qh (λ C k=>Later.call (xU C k v));clear l c1;refine aU (by kernel_rfl) (by kernel_rfl) ?_
   repeat (go_big_quiet_step (with_reducible exact D.o _ _ _))
   refine wpQuiet_nil ?_;intro G i;have f:=qh (f.o.trans ((iQ i).mono f.o.size));clear i u z;go_wp2;go_ret2;exact⟨dC (by simp[yL,x.o,hn]),f.o⟩
theorem XM (op:Int) (a b d:Int) (r:List Int) (A:Option Addr) (c B:Nat) (w:World) (I:(a :: b :: d :: r).length<=maxLen) (p:Reads w B 1 A (a :: b :: d :: r).length (bK ba (a :: b :: d :: r))) (u:B<=w.heap.size) (q:op=26) :
  CS 247 #[a9 ba op,bc A (a :: b :: d :: r).length c] w (.tuple #[a9 ba (yL op (a :: b :: d :: r)).1,a9 ba (yL op (a :: b :: d :: r)).2]):=by
 obtain⟨m,o,rfl,z,f⟩:=p.plain (by simp);have s:=qh (show ∀ g,DD w g->g.cell? ⟨m,o,none⟩=some (a9 ba a)/\g.cell? ⟨m,o+1,none⟩=some (a9 ba b)/\g.cell? ⟨m,o+2,none⟩=some (a9 ba d) from λ g j=>⟨Below.cell_of j (f 0 _ rfl),Below.cell_of j (f 1 _ rfl),Below.cell_of j (f 2 _ rfl)⟩);generalize i:a :: b :: d :: r=ks at *;have H:=qh (λ k w' (j:DD w w')=>kT ks (some ⟨m,o,none⟩) c B k w' I (p.below (j.mono u)) (bg u j.size));have h:=qh (Below.refl w.heap.size w);have y:=qh (show xH ks 0=a/\xH ks 1=b/\xH ks 2=d from by rw[<- i];exact⟨rfl,rfl,rfl⟩);have L:3<=ks.length:=by rw[<- i];simp
 clear p f i;cases hn:allB ks 2 <;> cases h7:(a == 7)
 all_goals
  have E:=qh h7;rcases q with rfl
  all_goals
   obtain⟨n,c1,c2⟩:=s.o _ h.o;go_enter func247,ntmps247;go_upto_region 29 with (first | (go_at_call 268;(refine (H.o _ _ h.o).mono ?_);rintro _ x ⟨rfl,t⟩;have h:=qh (h.o.trans (t.mono h.o.size));clear t n c1 c2;obtain⟨n,c1,c2⟩:=s.o _ h.o) | (go_at_call 267;(refine (fits_any _ _ _).mono ?_);rintro _ K ⟨rfl,rfl⟩));have v:=Later.cell n;have C:=Later.cell c1;have G:=Later.cell c2;have F:=qh (λ D k=>Later.call (xU D k x));clear n c1 c2;refine aU (by kernel_rfl) (by kernel_rfl) ?_
   repeat (go_big_quiet_step (with_reducible exact F.o _ _ _))
   refine wpQuiet_nil ?_;intro J l;have h:=qh (h.o.trans ((iQ l).mono h.o.size));clear l v C G;go_wp2;go_ret2;exact⟨dC (by simp[yL,y.o,hn,E.o]),h.o⟩
end
section
open Go.RowKit
theorem Qg (op:Int) (f:List Int) (A:Option Addr) (c B:Nat) (w:World) (n:1<=op) (m:op<=39) (k:(jm op).1<=f.length/\f.length<=(jm op).2) (i:f.length<=maxLen) (g:Reads w B 1 A f.length (bK ba f)) (j:B<=w.heap.size) :
  CS 247 #[a9 ba op,bc A f.length c] w (.tuple #[a9 ba (yL op f).1,a9 ba (yL op f).2]):=by
 by_cases ga:op=1\/op=2\/op=3\/op=6\/op=7\/op=8\/op=9\/op=12\/op=13\/op=14\/op=15\/op=16
 .exact XG op f A c B w i g j ga
 by_cases gb:op=17\/op=18\/op=19\/op=20\/op=21\/op=22\/op=23\/op=30\/op=31\/op=32\/op=33\/op=34\/op=35
 .exact XH op f A c B w i g j gb
 by_cases gc:op=36\/op=37\/op=38
 .exact XI op f A c B w i g j gc
 have l:1<=(jm op).1/\(¬ (op=24\/op=25\/op=28\/op=29)->2<=(jm op).1):=by
  unfold jm;constructor
  .repeat' split
   all_goals omega
  .intro h
   repeat' split
   all_goals omega
 have k:=k.1
 match f with
 | []=>rw[List.length_nil] at k;omega
 | [a] =>
  by_cases gd:op=24\/op=25\/op=28\/op=29
  .exact MX op a [] A c B w i g j gd
  have:=l.2 gd;rw[List.length_singleton] at k;omega
 | a :: b :: r =>
  by_cases gd:op=24\/op=25\/op=28\/op=29
  .exact MX op a (b :: r) A c B w i g j gd
  by_cases ge:op=10\/op=11\/op=39
  .exact XJ op a b r A c B w i g j ge
  by_cases gf:op=4\/op=5
  .exact XK op a b r A c B w i g j gf
  by_cases gg:op=27
  .exact XL op a b r A c B w i g j gg
  obtain rfl:op=26:=by omega
  match r with
  | []=>exact absurd (show 3<=2 from k) (by decide)
  | d :: r=>exact XM 26 a b d r A c B w i g j rfl
end
def Eo (cells:List bu) (nm:ByteArray) (at_:List ByteArray):Int × Int:=match cells.find? (λ c=>decide (c.nm=nm) && mZ c.loops at_) with
 | some c=>(c.kind,0)
 | none=>(0,5)
def Ep (loops:List bU) (nm:ByteArray) (at_:List ByteArray):Option (List ByteArray):=match loops.find? (λ n=>decide (n.nm=nm)) with
 | some n=>if mZ n.loops at_ then some (n.loops ++ [n.nm]) else none
 | none=>none
mutual
def Ex.kind (cells:List bu) (loops:List bU):Ex->List ByteArray->Int × Int
 | .mk k op nm v ar,at_ =>
  if k=1 then (v.k,0) else if k=2 then Eo cells nm at_ else if k=3 then (if bS at_ nm then (2,0) else (0,5)) else
  if k=5 then (match Ep loops nm at_ with
   | none=>(0,5)
   | some at'=>MZ cells loops ar at' op) else
  (match je cells loops ar at_ [] with
   | (why,ks)=>if why≠0 then (0,why) else yL op ks)
def MZ (cells:List bu) (loops:List bU):List Ex->List ByteArray->Int->Int × Int
 | [],_,_=>(0,0)
 | a :: _,at',op=>if (a.kind cells loops at').2≠0 then (0,(a.kind cells loops at').2) else Il op (a.kind cells loops at').1
def je (cells:List bu) (loops:List bU):List Ex->List ByteArray->List Int->Int × List Int
 | [],_,ks=>(0,ks)
 | a :: r,at_,ks=>if (a.kind cells loops at_).2≠0 then ((a.kind cells loops at_).2,ks) else je cells loops r at_ (ks ++ [(a.kind cells loops at_).1])
end
theorem yQ (b:List bu) (a:List bU) (e:Ex) (at_:List ByteArray):e.kind b a at_ =
  if e.k=1 then (e.v.k,0) else if e.k=2 then Eo b e.nm at_ else if e.k=3 then (if bS at_ e.nm then (2,0) else (0,5)) else
  if e.k=5 then (match Ep a e.nm at_ with
   | none=>(0,5)
   | some at'=>MZ b a e.ar at' e.op) else
  (if (je b a e.ar at_ []).1≠0 then (0,(je b a e.ar at_ []).1) else yL e.op (je b a e.ar at_ []).2):=by
 cases e;rw[Ex.kind];rfl
theorem Na (b:List bu) (a:List bU) (ar:List Ex) (at_:List ByteArray) (c:List Int) (k:Nat) (h:k<ar.length):je b a (ar.drop k) at_ c =
  if (ar[k].kind b a at_).2≠0 then ((ar[k].kind b a at_).2,c) else je b a (ar.drop (k+1)) at_ (c ++ [(ar[k].kind b a at_).1]):=by
 rw[bq h,je]
namespace Limb
def B:Nat:=1000000000
def val:List Nat->Nat
 | []=>0
 | x :: r=>x+1000000000*val r
def Small (l:List Nat):Prop:=∀ x∈l,x<1000000000
theorem Small.nil:Small []:=λ x h=>by cases h
theorem Small.append {l r:List Nat} (h:Small l) (b:Small r):Small (l ++ r):=λ x a=>by
 rcases bt.1 a with a | a
 .exact h x a
 .exact b x a
theorem Small.snoc {l:List Nat} {x:Nat} (h:Small l) (b:x<1000000000):Small (l ++ [x]):=h.append λ y a=>by simp at a;omega
theorem Small.take {l:List Nat} (h:Small l) (k:Nat):Small (l.take k):=λ x a=>h x (List.mem_of_mem_take a)
theorem Small.drop {l:List Nat} (h:Small l) (k:Nat):Small (l.drop k):=λ x a=>h x (List.mem_of_mem_drop a)
theorem Small.at_ {l:List Nat} (h:Small l) {k:Nat} (a:k<l.length):l[k]<1000000000:=h _ (bE a)
end Limb
namespace Dig
open Limb
def dF (b:UInt8):Prop:=48<=b.toNat/\b.toNat<=57
def dO (l:List UInt8):Nat:=l.foldl (λ n b=>n*10+(b.toNat - 48)) 0
theorem UE (l:List UInt8) (n:Nat):l.foldl (λ n b=>n*10+(b.toNat - 48)) n=n*10 ^ l.length+dO l:=by
 induction l generalizing n with
 | nil=>simp[dO]
 | cons b l ih =>
  have e:dO (b :: l)=(b.toNat - 48)*10 ^ l.length+dO l:=by
   unfold dO;rw[bx,ih,Nat.zero_mul,Nat.zero_add];rfl
  rw[bx,ih,e,List.length_cons,bX,Nat.add_mul];have:n*10*10 ^ l.length=n*(10 ^ l.length*10):=by rw[Nat.mul_assoc,Nat.mul_comm 10]
  omega
theorem Hl (a b:List UInt8):dO (a ++ b)=dO a*10 ^ b.length+dO b:=by
 have:=UE b (dO a);unfold dO at *;rw[List.foldl_append,this]
theorem Ci (b:UInt8) (l:List UInt8):dO (b :: l)=(b.toNat - 48)*10 ^ l.length+dO l:=by
 have:=Hl [b] l;simpa [dO] using this
theorem Cj (l:List UInt8) (b:UInt8):dO (l ++ [b])=dO l*10+(b.toNat - 48):=by
 simp[dO]
theorem wu {k:Nat} (h:k<10):(UInt8.ofNat (48+k)).toNat=48+k:=by
 rw[UInt8.toNat_ofNat'];omega
theorem sG (u:Nat):dO (bj u)=u:=by
 induction u using b0 with
 | _ u ih =>
  rw[bj];by_cases h:u<10
  .rw[dif_pos h];simp only[dO,bx,List.foldl_nil,wu h];omega
  .rw[dif_neg h,Cj,ih (u / 10) (by omega),wu (Nat.mod_lt _ (by omega))];omega
theorem wB (u:Nat):∀ b∈bj u,dF b:=by
 induction u using b0 with
 | _ u ih =>
  rw[bj];by_cases h:u<10
  .rw[dif_pos h];intro b a;rw[bv.1 a];unfold dF;rw[wu h];omega
  .rw[dif_neg h];intro b a;rcases bt.1 a with a | a
   .exact ih (u / 10) (by omega) b a
   .rw[bv.1 a];unfold dF;rw[wu (Nat.mod_lt _ (by omega))];omega
theorem gI (k u:Nat) (h:u<10 ^ (k+1)):(bj u).length<=k+1:=by
 induction k generalizing u with
 | zero=>rw[bj,dif_pos (by simpa using h)];simp
 | succ k ih =>
  rw[bj];by_cases h0:u<10
  .rw[dif_pos h0];simp
  .rw[dif_neg h0,List.length_append];have:=ih (u / 10) (by rw[bX] at h;omega);simp;omega
theorem ab2 (u:Nat):0<(bj u).length:=by
 rw[bj];split <;> simp
def zeros (k:Nat):List UInt8:=b2 k 48
theorem Jy (k:Nat) (l:List UInt8):dO (zeros k ++ l)=dO l:=by
 induction k with
 | zero=>rfl
 | succ k ih =>
  rw[zeros,List.replicate_succ,b3,Ci];rw[show b2 k 48 ++ l=zeros k ++ l from rfl,ih];simp
theorem UF (k:Nat):∀ b∈zeros k,dF b:=λ b a=>by
 rw[(List.mem_replicate.1 a).2];unfold dF;decide
end Dig
namespace Cal
def lp (y:Int):Bool:=(decide (y % 4=0) && decide (y % 100≠0)) || decide (y % 400=0)
def Nb (y m:Int):Int:=if m=2 then (if lp y=true then 29 else 28) else if m=4\/m=6\/m=9\/m=11 then 30 else 31
def yd (y:Int):Int:=if lp y=true then 366 else 365
def base (y:Int):Int:=365*(y - 1970)+((y - 1) / 4 - (y - 1) / 100+(y - 1) / 400) - 477
def fb (y:Int):Int:=if lp y=true then 29 else 28
def Es (y m:Int):Int:=
 if m<=1 then 0 else if m=2 then 31 else if m=3 then 31+fb y else if m=4 then 62+fb y else if m=5 then 92+fb y else if m=6 then 123+fb y else
 if m=7 then 153+fb y else if m=8 then 184+fb y else if m=9 then 215+fb y else if m=10 then 245+fb y else if m=11 then 276+fb y else if m=12 then 306+fb y else 337+fb y
def num (y m d:Int):Int:=base y+Es y m+d - 1
theorem XN (y:Int):(lp y=true/\(y % 4=0/\y % 100≠0\/y % 400=0))\/(lp y=false/\¬ (y % 4=0/\y % 100≠0\/y % 400=0)):=by
 unfold lp;by_cases a:y % 4=0 <;> by_cases b:y % 100=0 <;> by_cases c:y % 400=0 <;> simp[a,b,c] <;> omega
theorem Aw (y:Int):base (y+1)=base y+yd y:=by
 unfold base yd;rcases XN y with ⟨h,e⟩ | ⟨h,e⟩
 .rw[if_pos h];omega
 .rw[if_neg (by rw[h];simp)];omega
theorem Az:base 1900 = -25567:=by decide
theorem wC:base 2200=84006:=by decide
theorem kU {a b:Int} (h:a<=b):base a<=base b:=by unfold base;omega
theorem Et (y:Int):(fb y=29/\yd y=366/\lp y=true)\/(fb y=28/\yd y=365/\lp y=false):=by
 unfold fb yd;cases h:lp y <;> simp
theorem lJ (y m:Int) (d:1<=m) (c:m<=12):Es y (m+1)=Es y m+Nb y m:=by
 have:m=1\/m=2\/m=3\/m=4\/m=5\/m=6\/m=7\/m=8\/m=9\/m=10\/m=11\/m=12:=by omega
 rcases Et y with ⟨a,-,b⟩ | ⟨a,-,b⟩ <;> rcases this with rfl | rfl | rfl | rfl | rfl | rfl | rfl | rfl | rfl | rfl | rfl | rfl <;> simp[Es,Nb,a,b]
theorem DJ (y:Int):Es y 1=0:=by simp[Es]
theorem Qh (y:Int):Es y 13=yd y:=by
 rcases Et y with ⟨a,b,-⟩ | ⟨a,b,-⟩ <;> simp[Es,a,b]
theorem Eu (y m:Int):28<=Nb y m/\Nb y m<=31:=by unfold Nb;repeat' split <;> omega
theorem Qi (y m:Int):0<=Es y m/\Es y m<=366:=by
 rcases Et y with ⟨a,-,-⟩ | ⟨a,-,-⟩ <;> unfold Es <;> rw[a] <;> repeat' split <;> omega
theorem Ew (y:Int) {a b:Int} (h:a<=b) (g:1<=a) (f:b<=13):Es y a<=Es y b:=by
 obtain⟨k,c⟩:∃ k:Nat,b=a+k:=⟨(b - a).toNat,by omega⟩;subst c;clear h
 induction k with
 | zero=>simp
 | succ k ih =>
  have e:=lJ y (a+k) (by omega) (by omega);have d:=Eu y (a+k);have:=ih (by omega);rw[show a+((k+1:Nat):Int)=a+k+1 from by omega];omega
theorem SE (y:Int) (b:1600<=y) (a:y<=2400) : -136000<=base y/\base y<=158000:=by unfold base;omega
structure fP (n y m d:Int):Prop where
 m1:1<=m
 m2:m<=12
 d1:1<=d
 d2:d<=Nb y m
 eq:num y m d=n
theorem fP.year {n y m d:Int} (h:fP n y m d):base y<=n/\n<base (y+1):=by
 have e:=Qi y m;have c:=lJ y m h.m1 h.m2;have b:=Ew y (show m+1<=13 by have:=h.m2;omega) (by have:=h.m1;omega) (by omega);have a:=Qh y;have f:=Aw y;have:=h.eq;have:=h.d1;have:=h.d2;unfold num at *;omega
theorem fP.unique {n y m d y' m' d':Int} (h:fP n y m d) (c:fP n y' m' d'):y=y'/\m=m'/\d=d':=by
 have f:y=y':=by
  have a:=h.year;have b:=c.year;rcases b4 y y' with l | l | l
  .have:=kU (show y+1<=y' by omega);omega
  .exact l
  .have:=kU (show y'+1<=y by omega);omega
 subst f;have e:m=m':=by
  have a:=lJ y m h.m1 h.m2;have b:=lJ y m' c.m1 c.m2;have:=h.eq;have:=h.d1;have:=h.d2;have:=c.eq;have:=c.d1;have:=c.d2;unfold num at *;rcases b4 m m' with l | l | l
  .have:=Ew y (show m+1<=m' by omega) (by have:=h.m1;omega) (by have:=c.m2;omega);omega
  .exact l
  .have:=Ew y (show m'+1<=m by omega) (by have:=c.m1;omega) (by have:=h.m2;omega);omega
 subst e;refine⟨rfl,rfl,?_⟩;have:=h.eq;have:=c.eq;unfold num at *;omega
open Classical in
noncomputable def civ (n:Int):Int × Int × Int:=if h:∃ p:Int × Int × Int,fP n p.1 p.2.1 p.2.2 then Classical.choose h else (0,0,0)
theorem Qj {n y m d:Int} (h:fP n y m d):civ n=(y,m,d):=by
 have a:∃ p:Int × Int × Int,fP n p.1 p.2.1 p.2.2:=⟨(y,m,d),h⟩;unfold civ;rw[dif_pos a];obtain⟨b,c,e3⟩:=(Classical.choose_spec a).unique h;exact Prod.ext b (Prod.ext c e3)
noncomputable def cy (n:Int):Int:=(civ n).1
noncomputable def cm (n:Int):Int:=(civ n).2.1
noncomputable def cd (n:Int):Int:=(civ n).2.2
theorem fP.cy {n y m d:Int} (h:fP n y m d):cy n=y:=by unfold Cal.cy;rw[Qj h]
theorem fP.cm {n y m d:Int} (h:fP n y m d):cm n=m:=by unfold Cal.cm;rw[Qj h]
theorem fP.cd {n y m d:Int} (h:fP n y m d):cd n=d:=by unfold Cal.cd;rw[Qj h]
def Io (n:Int):Int:=if n<0 then 1970+n.tdiv 365 - 1 else 1970+n.tdiv 366
theorem XO {n:Int} (c : -25567<=n) (b:n<=84005):base (Io n)<=n/\1899<=Io n/\Io n<=2199:=by
 unfold Io;split
 .rename_i a;have e:n.tdiv 365 = -((-n) / 365):=by
   obtain⟨k,rfl⟩:∃ k:Nat,n = -(k:Int):=⟨n.natAbs,by omega⟩;rw[b5,bm (by omega)];simp
  rw[e];unfold base;omega
 .rename_i a;rw[bm (by omega)];unfold base;omega
theorem Cm {n:Int} (k:Int) (a:n<0):n.tdiv k = -((-n) / k):=by
 obtain⟨j,rfl⟩:∃ j:Nat,n = -(j:Int):=⟨n.natAbs,by omega⟩;rw[b5,bm (by omega)];simp
theorem ab3 {n:Int} (b : -25567<=n) (a:n<=84005) : -71<=n.tdiv 365/\n.tdiv 365<=231 /\ -71<=n.tdiv 366/\n.tdiv 366<=231:=by
 by_cases hn:n<0
 .rw[Cm 365 hn,Cm 366 hn];omega
 .rw[bm (by omega),bm (by omega)];omega
theorem xW {n y:Int} (e : -25567<=n) (c:n<=84005) (f:base y<=n) (d:n<base (y+1)):1900<=y/\y<=2199:=by
 have a:=Az;have b:=wC;constructor
 .by_cases h:1900<=y
  .exact h
  .have:=kU (show y+1<=1900 by omega);omega
 .by_cases h:y<=2199
  .exact h
  .have:=kU (show 2200<=y by omega);omega
theorem Ey {n y m:Int} (d:base y+Es y m<=n) (c:n<base y+Es y m+Nb y m) (a:1<=m) (b:m<=12):fP n y m (n - (base y+Es y m)+1):=
 ⟨a,b,by omega,by omega,by unfold num;omega⟩
theorem XP {n:Int} (l : -25567<=n) (j:n<=84005):∃ y m d,fP n y m d:=by
 have i:∀ k:Nat,∀ y,base y<=n->2200 - y=k->∃ y,base y<=n/\n<base (y+1):=by
  intro k
  induction k with
  | zero=>intro y a e;exact⟨y,a,by have:=wC;have:=kU (show 2200<=y+1 by omega);omega⟩
  | succ k ih =>
   intro y a e;by_cases h:n<base (y+1)
   .exact⟨y,a,h⟩
   .exact ih (y+1) (by omega) (by omega)
 obtain⟨y,a,o⟩:=i 300 1900 (by have:=Az;omega) (by omega);have g:∀ k:Nat,∀ m,1<=m->m<=12->base y+Es y m<=n->12 - m=k->∃ m d,fP n y m d:=by
  intro k
  induction k with
  | zero =>
   intro m b c f e;obtain rfl:m=12:=by omega
   have:=lJ y 12 (by omega) (by omega);have:=Qh y;have:=Aw y;exact⟨12,_,Ey f (by simp only[show (12:Int)+1=13 from rfl] at *;omega) (by omega) (by omega)⟩
  | succ k ih =>
   intro m b c f e;by_cases h:n<base y+Es y (m+1)
   .exact⟨m,_,Ey f (by have:=lJ y m b c;omega) b c⟩
   .exact ih (m+1) (by omega) (by omega) (by omega) (by omega)
 obtain⟨m,d,h⟩:=g 11 1 (by omega) (by omega) (by rw[DJ];omega) (by omega);exact⟨y,m,d,h⟩
theorem Nc {n:Int} (b : -25567<=n) (a:n<=84005):fP n (cy n) (cm n) (cd n):=by
 obtain⟨y,m,d,h⟩:=XP b a;rw[h.cy,h.cm,h.cd];exact h
def kK (y m d:Int):Bool:=decide (1900<=y) && decide (y<=2199) && decide (1<=m) && decide (m<=12) && decide (1<=d) && decide (d<=Nb y m)
theorem sH (y m d:Int):kK y m d=true ↔ (1900<=y/\y<=2199)/\(1<=m/\m<=12)/\1<=d/\d<=Nb y m:=by
 simp only[kK,Bool.and_eq_true,decide_eq_true_eq];omega
theorem UG {y m d:Int} (f:1<=m) (g:m<=12) (j:1<=d) (i:d<=Nb y m):(-25567<=num y m d/\num y m d<=84005) ↔ (1900<=y/\y<=2199):=by
 have h:fP (num y m d) y m d:=⟨f,g,j,i,rfl⟩;obtain⟨l,k⟩:=h.year;constructor
 .rintro ⟨c,e⟩;exact xW c e l k
 .rintro ⟨c,e⟩;have a:=Az;have b:=wC;have:=kU c;have:=kU (show y+1<=2200 by omega);omega
end Cal
namespace Vtx
open Go.Lib
def subst1 (c:UInt8) (new:List UInt8) (s:List UInt8):List UInt8:=s.flatMap λ b=>if b=c then new else [b]
def UH:List UInt8->List UInt8
 | a :: b :: r=>if a=39/\b=39 then 39 :: UH r else a :: UH (b :: r)
 | l=>l
theorem Hm (old new:List UInt8) (k:Nat) (s:List UInt8) (h:index s old = -1):replaceK old new k s=s:=by
 cases k with
 | zero=>rfl
 | succ k=>unfold replaceK;rw[if_pos (by simp[h])]
theorem sJ (b:UInt8) (l a:List UInt8):index (b :: l) a=if a.isPrefixOf (b :: l) then 0 else if index l a = -1 then -1 else index l a+1:=by
 rw[index];simp
theorem count_le (s a:List UInt8) (c:a≠[]):∀ f,s.length<f->∀ g,s.length<g->countFrom a f s=countFrom a g s:=by
 intro f
 induction f generalizing s with
 | zero=>intro h;omega
 | succ f ih =>
  intro h g d;cases g with
  | zero=>omega
  | succ g =>
   unfold countFrom;by_cases hi:index s a = -1
   .simp[hi]
   .have b:(index s a == -1)=false:=by simpa using hi
    have e:=index_ge s a;have j:=index_room s a (by omega);have i:0<a.length:=b6.2 c;simp only[b,bz,if_false];congr 1;exact ih _ (by simp;omega) g (by simp;omega)
theorem count_hit {s sub:List UInt8} {i:Nat} (a:sub≠[]) (h:index s sub=i):count s sub=1+count (s.drop (i+sub.length)) sub:=by
 have d:=index_room s sub (by omega);have c:0<sub.length:=b6.2 a;rw[count,countFrom];have b:(index s sub == -1)=false:=by rw[h];rw[beq_eq_false_iff_ne];omega
 simp only[b,bz,if_false];rw[h,Int.toNat_natCast];congr 1;unfold count;exact count_le _ _ a _ (by simp;omega) _ (by omega)
def AA (old new:List UInt8):List UInt8->List UInt8:=λ s=>replaceK old new (count s old) s
theorem AB {s old new:List UInt8} (h:index s old = -1):AA old new s=s:=Hm _ _ _ _ h
theorem Ez {s old new:List UInt8} {i:Nat} (a:old≠[]) (h:index s old=i):AA old new s=s.take i ++ new ++ AA old new (s.drop (i+old.length)):=by
 unfold AA;rw[count_hit a h,Nat.add_comm,replaceK_hit _ _ _ _ _ h]
theorem kE {s old new:List UInt8} (h:old≠new):replaceAll s old new=AA old new s:=by
 unfold replaceAll replace replaceNum AA;rw[if_neg (by simpa using h),if_pos (by simp)]
theorem ED {old new:List UInt8} (a:old≠[]):AA old new [] = []:=AB (by cases old;exact absurd rfl a;rfl)
theorem Ip {old new r:List UInt8} (a:old≠[]):AA old new (old ++ r)=new ++ AA old new r:=by
 have h:index (old ++ r) old=(0:Nat):=by
  refine index_first (bo _) ?_ (λ j b=>absurd b (by omega));simp[occAt]
 rw[Ez a h];simp
theorem AO {old new r:List UInt8} {b:UInt8} (d:old≠[]) (h:old.isPrefixOf (b :: r)=false):AA old new (b :: r)=b :: AA old new r:=by
 have a:=sJ b r old;rw[h] at a;simp only[bz,if_false] at a;by_cases hr:index r old = -1
 .rw[if_pos hr] at a;rw[AB a,AB hr]
 .rw[if_neg hr] at a;obtain⟨i,c⟩:∃ i:Nat,index r old=i:=⟨(index r old).toNat,by have:=index_ge r old;omega⟩;rw[Ez d (i:=i+1) (by rw[a,c];rfl),Ez d c];simp[Nat.add_right_comm]
theorem CB (c:UInt8) (new s:List UInt8):AA [c] new s=subst1 c new s:=by
 induction s with
 | nil=>exact ED (by simp)
 | cons b r ih =>
  by_cases h:b=c
  .subst h;have:=Ip (new:=new) (r:=r) (old:=[b]) (by simp);simp only[List.singleton_append] at this;rw[this,ih];simp[subst1]
  .rw[AO (by simp) (by simp[bA];exact λ e=>h e.symm),ih];simp[subst1,h]
theorem Nh (s:List UInt8):AA [39,39] [39] s=UH s:=by
 induction s using UH.induct with
 | case1 a b r h ih =>
  obtain⟨rfl,rfl⟩:=h;have:=Ip (new:=[39]) (r:=r) (old:=[39,39]) (by simp);simp only[b3,List.nil_append] at this;rw[this,ih,UH,if_pos ⟨rfl,rfl⟩]
 | case2 a b r h ih =>
  rw[AO (by simp),ih,UH,if_neg h];simp only[bA,Bool.and_true];rw[Bool.eq_false_iff];intro e;simp at e;exact h ⟨e.1.symm,e.2.symm⟩
 | case3 l h =>
  rcases l with _ | ⟨a,_ | ⟨b,r⟩⟩
  .rw[ED (by simp)];rfl
  .rw[AO (by simp) (by simp[bA]),ED (by simp)];rfl
  .exact absurd rfl (h a b r)
theorem UI (s:List UInt8):UH (subst1 39 [39,39] s)=s:=by
 induction s with
 | nil=>rfl
 | cons b r ih =>
  by_cases h:b=39
  .subst h;have e:subst1 39 [39,39] (39 :: r)=39 :: 39 :: subst1 39 [39,39] r:=by simp[subst1]
   rw[e,UH,if_pos ⟨rfl,rfl⟩,ih]
  .have e:subst1 39 [39,39] (b :: r)=b :: subst1 39 [39,39] r:=by simp[subst1,h]
   rw[e];cases hr:subst1 39 [39,39] r with
   | nil=>rw[hr] at ih;rw[<- ih];simp[UH]
   | cons d t=>rw[UH,if_neg (by simp[h]),<- hr,ih]
theorem back (s:List UInt8):replaceAll (replaceAll s [39] [39,39]) [39,39] [39]=s:=by
 rw[kE (by simp),kE (by simp),CB,Nh,UI]
end Vtx
end Go.Proofs.YtcnagconagpkcaaGreatDoor
