/- Lemmas. -/
import Derived.Test.YtcnagconagpkcaaGreatDoorZ2
import Derived.Maps.OwnSet
import Derived.StringKeys
import Derived.Deep.RegionHeld3
import Derived.Deep.DrawnRows
import Derived.IntWalk
set_option maxHeartbeats 8000000
set_option maxRecDepth 100000
open Go.Value renaming int->be, string->bg, slice->bh, pointer->bi, bool->bk
open Go.IntKind renaming i64->bf
open Go.Obj renaming cells->bj
open Nat renaming le_refl->bl, le_trans->bo, zero_le->bt, eq_zero_or_pos->bD, lt_of_lt_of_le->bO
open And renaming intro->bm
open Go.World renaming size_alloc->bp
open Go.Instr renaming lookup->bq
open List renaming take_succ_eq_append_getElem->br, mem_singleton->bs, take_of_length_le->bv, getElem?_eq_getElem->bw, eq_nil_of_length_eq_zero->bx, any_eq_true->bA, getElem?_map->bB, take_length->bE, length_take_le'->bK, mem_append->bL, length_take->bN, mem_cons_self->bQ, mem_cons_of_mem->bR, getElem_mem->bS, getElem?_take->bX, mem_append_left->b0, pairwise_append->b4, pairwise_singleton->b5, mem_cons->b6, any_eq_false->b7, drop_eq_getElem_cons->b9, drop_eq_nil_of_le->ca
namespace Go.Proofs.YtcnagconagpkcaaGreatDoor
open Go.RowKit
theorem df {P:Program} {f:Region.Mode} {c:Array Oper} {Q:Exit->Act->World->Prop} {i:Nat} {o:Oper} {d:Nat} {b:Array Bool} {a:Act} {w:World} (j:Region.ready f c b = [i]) (g:c[i]?=some o)
  (h:∀ e:Act->World->Prop,(∀ a w,wpAny P f c Q d (b.setIfInBounds i true) a w->e a w)->if Region.wanted o (yielded c a.tmps)=true then Oper.wp P o a w e Q else e (a.put o.dst undef) w):wpAny P f c Q (d+1) b a w:=
 wpAny_ready j (by simp) (AllReady.cons g h AllReady.nil)
structure Two (w w':World) (p d:Nat):Prop where
 os:w'.os=w.os
 tape:w'.tape=w.tape
 output:w'.output=w.output
 size:w.heap.size<=w'.heap.size
 block:∀ i,i<w.heap.size->i≠p->i≠d->w'.heap[i]?=w.heap[i]?
theorem Two.refl (w:World) (p d:Nat):Two w w p d:=⟨rfl,rfl,rfl,bl _,λ _ _ _ _=>rfl⟩
theorem Two.trans {a b c:World} {p d:Nat} (h:Two a b p d) (k:Two b c p d):Two a c p d:=
 ⟨k.os.trans h.os,k.tape.trans h.tape,k.output.trans h.output,bo h.size k.size,λ i g e f=>(k.block i (bO g h.size) e f).trans (h.block i g e f)⟩
theorem Two.alloc {a w:World} {p d:Nat} (h:Two a w p d) (o:Obj):Two a (w.alloc o) p d:=
 ⟨h.os,h.tape,h.output,by rw[bp];exact Nat.le_succ_of_le h.size,λ i b c e=>(Below.heap_alloc w o i (bO b h.size)).trans (h.block i b c e)⟩
theorem Two.set {a w:World} {p d:Nat} (h:Two a w p d) {q:Addr} (f:q.block=p\/q.block=d) (u:Value):Two a (w.setCell q u) p d:=
 ⟨h.os,h.tape,h.output,by show _<=(w.setCell q u).heap.size;simp[World.setCell];exact h.size,λ i g b c=>(Below.heap_setCell w q u i (by rcases f with e | e <;> rw[e] <;> assumption)).trans (h.block i g b c)⟩
theorem Two.below {w w':World} {p d B:Nat} (h:Two w w' p d) (b:B<=p) (c:B<=d) (a:B<=w.heap.size):Below B w w':=
 ⟨h.os,h.tape,h.output,h.size,λ i e=>h.block i (by omega) (by omega) (by omega)⟩
theorem ah.two {w w':World} {p d g:Nat} {t:TypeId} {cs:Array Value} (h:ah w g t cs) (c:Two w w' p d) (a:g≠p) (b:g≠d):ah w' g t cs:=(c.block g h.lt a b).trans h
theorem Nv (e:Ex):∀ lv (s:Nat × Nat),(e.meas lv s).1<=s.1+e.parts:=by
 induction e using Ex.ind with
 | h e ih =>
  intro lv s;rw[zZ,parts_eq];split
  .show s.1+1<=_;omega
  .have:∀ (l:List Ex),(∀ a∈l,a∈e.ar)->∀ s:Nat × Nat,(fP l (lv+1) s).1<=s.1+aI l:=by
    intro l
    induction l with
    | nil=>intro _ s;rw[fP,aI];exact bl _
    | cons a r ih2 =>
     intro h s;have f:=ih a (h a (bQ ..)) (lv+1) s;have g:=ih2 (λ b d=>h b (bR _ d)) (a.meas (lv+1) s);rw[fP,aI];omega
   have:=this e.ar (λ a c=>c) (s.1+1,max s.2 lv);simp only at this;omega
theorem Nw (e:Ex):∀ lv (s:Nat × Nat),lv<=21->s.2<=21->(e.meas lv s).2<=21:=by
 induction e using Ex.ind with
 | h e ih =>
  intro lv s g i;rw[zZ];split
  .show max s.2 lv<=_;omega
  .rename_i j;have:∀ (l:List Ex),(∀ a∈l,a∈e.ar)->∀ s:Nat × Nat,s.2<=21->(fP l (lv+1) s).2<=21:=by
    intro l
    induction l with
    | nil=>intro _ s c;rw[fP];exact c
    | cons a r ih2 =>
     intro h s c;rw[fP];exact ih2 (λ b f=>h b (bR _ f)) _ (ih a (h a (bQ ..)) (lv+1) s (by omega) c)
   exact this e.ar (λ a d=>d) _ (by show max s.2 lv<=_;omega)
theorem Fg (a:Ex) (lv:Nat):∀ (l:List Ex) (s:Nat × Nat),fP (l ++ [a]) lv s=a.meas lv (fP l lv s)
 | [],s=>by rw[List.nil_append,fP,fP,fP]
 | b :: r,s=>by rw[List.cons_append,fP,fP,Fg a lv r]
theorem Ny (l:List Ex) (lv:Nat) (s:Nat × Nat):∀ k,(fP (l.take k) lv s).1<=s.1+aI (l.take k):=by
 intro k;have:∀ (l:List Ex) (s:Nat × Nat),(fP l lv s).1<=s.1+aI l:=by
  intro l
  induction l with
  | nil=>intro s;rw[fP,aI];exact bl _
  | cons a r ih =>
   intro s;have b:=Nv a lv s;have c:=ih (a.meas lv s);rw[fP,aI];omega
 exact this _ s
theorem Nz (l:List Ex) (lv:Nat) (s:Nat × Nat) (c:lv<=21) (d:s.2<=21):∀ k,(fP (l.take k) lv s).2<=21:=by
 intro k;have:∀ (l:List Ex) (s:Nat × Nat),s.2<=21->(fP l lv s).2<=21:=by
  intro l
  induction l with
  | nil=>intro s b;rw[fP];exact b
  | cons a r ih =>
   intro s b;rw[fP];exact ih _ (Nw a lv s c b)
 exact this _ s d
structure MeR (en:Ending) (w w':World) (pb db:Nat) (s:Nat × Nat):Prop where
 he:∃ v,en = .returned v
 two:Two w w' pb db
 hp:ah w' pb 3 #[be bf (s.1:Nat)]
 hd:ah w' db 3 #[be bf (s.2:Nat)]
theorem NC (e:Ex):∀ (B f db:Nat) (cs:List Value) (lv p d:Nat) (w:World),aZ w B e cs->B<=w.heap.size->B<=f->B<=db->f≠db->ah w f 3 #[be bf (p:Nat)]->ah w db 3 #[be bf (d:Nat)] ->
  lv<=21->d<=21->p+e.parts<=1000000000000 ->
  Calls Tryz.prog 234 #[.agg cs.toArray,be bf (lv:Nat),bi (some ⟨f,0,none⟩),bi (some ⟨db,0,none⟩)] w λ en w'=>MeR en w w' f db (e.meas lv (p,d)):=by
 induction e using Ex.ind with
 | h e ih =>
  rintro B f db cs lv p d w hx hB H V ab j l aw hd hp;obtain⟨hn,hs,hl,ha,hx,hr,hi⟩:=hx;rename_i A c A' c' cs;have HR:=qh (bm hr hi);have HI:=qh ih;have N:=parts_eq e;have ac:p+1<=1000000000000:=by omega
  have T:=qh (zZ e lv (p,d));unfold maxLen at ha;clear hr hi ih hx;show Calls Tryz.prog 234 #[.agg (BC e A c A' e.ar.length c'),be bf (lv:Nat),bi (some ⟨f,0,none⟩),bi (some ⟨db,0,none⟩)] w _;go_enter Tryz.func234,Tryz.ntmps234;go_upto_region 1 with (fail);obtain⟨W,G⟩:=aC (w.alloc (.cells (BC e A c A' e.ar.length c') 67 (0,0)));have B0:ah W w.heap.size 67 (BC e A c A' e.ar.length c'):=G▸ah.new w _ _;have av:=j.lt;have aE:=l.lt;have j:=(G▸j.alloc _:ah W f 3 #[be bf (p:Nat)]);have l:=(G▸l.alloc _:ah W db 3 #[be bf (d:Nat)]);have T0:Two w W f db:=G▸(Two.refl w f db).alloc _;rw[<- G];clear G;have O:=qh N;clear N;have x:W.cell? ⟨f,0,none⟩=some (be bf (p:Nat)):=j.cell 0;have pz:W.frozen? ⟨f,0,none⟩=false:=j.frozen 0;have dc:W.cell? ⟨db,0,none⟩=some (be bf (d:Nat)):=l.cell 0;have dz:W.frozen? ⟨db,0,none⟩=false:=l.frozen 0;obtain⟨dO,eH,ik,iq,jK,jL,jM,jO⟩:=ah.c8 B0;go_upto_region 2 with (fail);obtain⟨y,m⟩:=aC (W.setCell ⟨f,0,none⟩ (be bf ((p:Int)+1)));have B0:ah y w.heap.size 67 (BC e A c A' e.ar.length c'):=m▸B0.far (p:=⟨f,0,none⟩) (by show w.heap.size≠f;omega) _;have j:ah y f 3 #[be bf ((p:Int)+1)]:=m▸j.eG 0 _;have l:ah y db 3 #[be bf (d:Nat)]:=m▸l.far (p:=⟨f,0,none⟩) (by show db≠f;omega) _;have T1:Two w y f db:=m▸T0.set (q:=⟨f,0,none⟩) (.inl rfl) _;rw[<- m];clear m T0 x pz dc dz dO eH ik iq jK jL jM jO;have x:y.cell? ⟨f,0,none⟩=some (be bf ((p:Int)+1)):=j.cell 0;have dc:y.cell? ⟨db,0,none⟩=some (be bf (d:Nat)):=l.cell 0;have dz:y.frozen? ⟨db,0,none⟩=false:=l.frozen 0;go_upto_region 3 with (fail);obtain⟨u,o⟩:=aC (y.setCell ⟨db,0,none⟩ (be bf (max (d:Int) (lv:Int))));have B0:ah u w.heap.size 67 (BC e A c A' e.ar.length c'):=o▸B0.far (p:=⟨db,0,none⟩) (by show w.heap.size≠db;omega) _;have j:ah u f 3 #[be bf ((p:Int)+1)]:=o▸j.far (p:=⟨db,0,none⟩) (by show f≠db;omega) _;have l:ah u db 3 #[be bf (max (d:Int) (lv:Int))]:=o▸l.eG 0 _;have T2:Two w u f db:=o▸T1.set (q:=⟨db,0,none⟩) (.inr rfl) _;rw[<- o];clear o T1 x dc dz;have j:ah u f 3 #[be bf ((p+1:Nat):Int)]:=by rw[show ((p+1:Nat):Int)=(p:Int)+1 from by omega];exact j
  have l:ah u db 3 #[be bf ((max d lv:Nat):Int)]:=by rw[show ((max d lv:Nat):Int)=max (d:Int) (lv:Int) from by omega];exact l
  have x:u.cell? ⟨f,0,none⟩=some (be bf ((p+1:Nat):Int)):=j.cell 0;obtain⟨q,hq⟩:=af (p+1);obtain⟨g,hg⟩:=af (max d lv);have ao:g<=21:=by omega
  rw[hq] at j x ac;rw[hg] at l;have t:=qh (show e.meas lv (p,d)=if 300<q\/20<lv then (q,g) else fP e.ar (lv+1) (q,g) by rw[T.o,<- hq,<- hg]);have aL:q+aI e.ar<=1000000000000:=by have:=O.o;omega
  clear T O hq hg;by_cases z:300<q
  .have b3:decide ((300:Int)<(q:Nat))=true:=by simp;omega
   have D:=qh (t.o.trans (if_pos (.inl z)));clear z;go_wp2;refine bodyPost_ret (v:=.tuple #[]) (by simp[results,Tryz.results234,go_sem]) rfl ⟨⟨_,rfl⟩,T2,?_,?_⟩
   .rw[D.o];exact j
   .rw[D.o];exact l
  have b3:decide ((300:Int)<(q:Nat))=false:=by simp;omega
  by_cases h20:20<lv
  .have an:decide ((20:Int)<(lv:Nat))=true:=by simp;omega
   have D:=qh (t.o.trans (if_pos (.inr h20)));clear z h20;go_wp2;refine bodyPost_ret (v:=.tuple #[]) (by simp[results,Tryz.results234,go_sem]) rfl ⟨⟨_,rfl⟩,T2,?_,?_⟩
   .rw[D.o];exact j
   .rw[D.o];exact l
  have an:decide ((20:Int)<(lv:Nat))=false:=by simp;omega
  have D:=qh (t.o.trans (if_neg (by omega)));have aD:lv<=20:=by omega
  clear z h20 t x;have x:u.cell? ⟨f,0,none⟩=some (be bf (q:Nat)):=j.cell 0;obtain⟨dO,eH,ik,iq,jK,jL,jM,jO⟩:=ah.c8 B0;go_wp2;have J:=qh j;have X:=qh l;clear x dO eH ik iq jK jL jM jO j l B0;go_loopw [33] (λ i wr=>∃ (k:Nat),k<=e.ar.length/\i = be bf k/\Two w wr f db/\Hid (ah wr f 3 #[be bf ((fP (e.ar.take k) (lv+1) (q,g)).1:Nat)]/\ah wr db 3 #[be bf ((fP (e.ar.take k) (lv+1) (q,g)).2:Nat)])) (λ i _=>e.ar.length - (intOf i).toNat)
  case atStart=>exact⟨0,bt _,rfl,T2,qh ⟨J.o,X.o⟩⟩
  case round =>
   obtain⟨k,hk,rfl,s,E⟩:=hrel;clear J X T2;have iT:=s.size;have ui:=s.below H V hB;by_cases hlt:k<e.ar.length
   .obtain⟨ad,ci,rfl,hb,C,b⟩:=aZ.arg (HR.o.1.below ui) (λ i h=>(HR.o.2 i h).keep ui) hlt;obtain⟨a,r⟩:=af (e.ar[k]);have R:a∈e.ar:=by rw[<- r];exact bS hlt
    obtain⟨P,I⟩:=af (fP (e.ar.take k) (lv+1) (q,g));obtain⟨P1,P2⟩:=P;have HS:=qh (show fP (e.ar.take (k+1)) (lv+1) (q,g)=a.meas (lv+1) (P1,P2) by
     rw[br hlt,Fg,r,I])
    have aa:P1+a.parts<=1000000000000:=by
     have F:=Ny e.ar (lv+1) (q,g) k;rw[I] at F;have h2:aI (e.ar.take k)+a.parts=aI (e.ar.take (k+1)):=by rw[br hlt,wQ,r]
     have z:=wR e.ar (k+1);simp only at F;omega
    have aq:P2<=21:=by
     have F:=Nz e.ar (lv+1) (q,g) (by omega) ao k;rw[I] at F;exact F
    have aW:=qh hlt;rw[I] at E;rw[r] at C;have nP:=qh C;have Y:=qh (λ w' F h2 z h4=>HI.o a R B f db ci (lv+1) P1 P2 w' F h2 H V ab z h4 (by omega) aq aa);obtain⟨ar,ay,aM,aR,ae,ak,al⟩:=C;rename_i A1 c1 Xd K ax;obtain⟨kC,kT,nZ,tV,tX,tY,tZ,wJ⟩:=Cm b;clear ae ak al b r R I aa;go_wp2_with fail;obtain⟨W3,n⟩:=aC (wr.alloc (.cells (BC a A1 c1 Xd a.ar.length K) 67 (0,0)));have T3:Two w W3 f db:=n▸s.alloc _;have U:ah W3 f 3 #[be bf (P1:Nat)]:=n▸E.o.1.alloc _;have S:ah W3 db 3 #[be bf (P2:Nat)]:=n▸E.o.2.alloc _;have L:IY wr W3:=n▸(Below.refl _ wr).alloc (bl _) _;rw[<- n];clear n kC kT nZ tV tX tY tZ wJ;rw[show ((lv:Nat):Int)+1=((lv+1:Nat):Int) from by omega];refine (Y.o W3 (nP.o.keep (L.mono (by omega))) (by have:=T3.size;omega) U S).mono ?_;rintro en w4 ⟨⟨v0,rfl⟩,T4,Q,M⟩;have am:=T3.trans T4;have ap:=qh (bm Q M);clear T3 T4 U S Q M L Y E;go_wp2;go_roundw
    case rel=>exact⟨k+1,aW.o,by go_num,am,by rw[HS.o];exact ap⟩
    case measure =>
     have:=aW.o;simp[intOf];omega
   .have Z:e.ar.take k=e.ar:=bv (by omega);rw[Z,<- D.o] at E;clear Z;go_wp2;refine bodyPost_end (v:=.tuple #[]) (by simp[results,Tryz.results234,go_sem]) rfl ⟨⟨_,rfl⟩,s,E.o.1,E.o.2⟩
theorem oI (e:Ex) (B:Nat) (cs:List Value) (w:World) (j:aZ w B e cs) (l:B<=w.heap.size) (R:e.parts<=100000000) :
  IE 211 #[.agg cs.toArray] w (be bf (dh e)):=by
 have r:=qh j;obtain⟨U,X,V,Q,j,y,N⟩:=j;rename_i A c A' c' cs;clear j y N;have v:=qh (Xc e);have t:=Nv e 1 (0,0);have q:=Nw e 1 (0,0) (by omega) (by simp);obtain⟨P,k⟩:=af (e.meas 1 (0,0));have s:=qh k;rw[k] at t q;obtain⟨p,d⟩:=P;simp only[Nat.zero_add] at t q;clear k;show Calls Tryz.prog 211 #[.agg (BC e A c A' e.ar.length c')] w _;go_enter Tryz.func211,Tryz.ntmps211;go_wp2_with fail;obtain⟨W,b⟩:=aC ((((w.alloc (.cells (BC e A c A' e.ar.length c') 67 (0,0))).alloc (bj #[be bf 0] 3 (0,0))).alloc (bj #[be bf 0] 3 (0,0))));have a:IY w W:=by rw[b];exact ((((Below.refl _ w).alloc (bl _) _).alloc (by simp) _).alloc (by simp;omega) _)
 have B0:ah W (w.heap.size) 67 (BC e A c A' e.ar.length c'):=by
  rw[b];have:=ah.new w 67 (BC e A c A' e.ar.length c');have:=this.alloc (bj #[be bf 0] 3 (0,0));have:=this.alloc (bj #[be bf 0] 3 (0,0));exact this
 have B1:ah W (w.heap.size+1) 3 #[be bf 0]:=by
  rw[b];have:=ah.new (w.alloc (.cells (BC e A c A' e.ar.length c') 67 (0,0))) 3 #[be bf 0];have:=this.alloc (bj #[be bf 0] 3 (0,0))
  rwa [bp] at this
 have B2:ah W (w.heap.size+2) 3 #[be bf 0]:=by
  rw[b];have:=ah.new ((w.alloc (.cells (BC e A c A' e.ar.length c') 67 (0,0))).alloc (bj #[be bf 0] 3 (0,0))) 3 #[be bf 0]
  rwa [bp,bp] at this
 have I:W.heap.size=w.heap.size+3:=by rw[b];simp
 rw[<- b];refine (NC e B (w.heap.size+1) (w.heap.size+2) _ 1 0 0 W (r.o.keep (a.mono l)) (by omega) (by omega) (by omega) (by omega) B1 B2 (by omega) (by omega) (by omega)).mono ?_;rw[s.o];rintro o i ⟨⟨O,rfl⟩,T,J,F⟩;have a:=a.trans (T.below (by omega) (by omega) a.size);have B0:=B0.two T (by omega) (by omega);have u:W.heap.size<=i.heap.size:=T.size;clear b T B1 B2;have K:i.cell? ⟨w.heap.size+1,0,none⟩=some (be bf (p:Nat)):=J.cell 0;have E:i.cell? ⟨w.heap.size+2,0,none⟩=some (be bf (d:Nat)):=F.cell 0;obtain⟨D,G,x,M,z,L,H,C⟩:=ah.c8 B0;have n:=qh (show (300<p\/20<d) ↔ (300<e.parts\/20<e.depth) by have h:=v.o;rw[s.o] at h;exact h);by_cases h3:300<p
 .have b3:decide ((300:Int)<(p:Nat))=true:=by simp;omega
  have g:=qh (show dh e=2 by unfold dh;rw[if_pos (n.o.1 (.inl h3))]);clear h3;go_wp2;go_ret;exact⟨ag (by rw[g.o]),a⟩
 have b3:decide ((300:Int)<(p:Nat))=false:=by simp;omega
 by_cases h20:20<d
 .have m:decide ((20:Int)<(d:Nat))=true:=by simp;omega
  have g:=qh (show dh e=2 by unfold dh;rw[if_pos (n.o.1 (.inr h20))]);clear h3 h20;go_wp2;go_ret;exact⟨ag (by rw[g.o]),a⟩
 have m:decide ((20:Int)<(d:Nat))=false:=by simp;omega
 have g:=qh (show dh e=e.fault by unfold dh;rw[if_neg (λ h=>by have:=n.o.2 h;omega)]);clear h3 h20;go_wp2_with fail;refine (Ff e B _ i (r.o.keep (a.mono l)) (bo l a.size)).mono ?_;rintro o S ⟨rfl,f⟩;have a:=a.trans (f.mono a.size);clear f K E D G x M z L H C;go_wp2;go_ret;exact⟨ag (by rw[g.o]),a⟩
theorem Fh (e:Ex) (B:Nat) (cs:List Value) (w:World) (l:aZ w B e cs) (m:B<=w.heap.size) (v:e.parts<=1000000) (i:Sp w) :
  IE 40 #[.agg cs.toArray] w (be bf (dh e)):=by
 have t:=qh l;have C:=qh i;obtain⟨N,P,O,L,l,y,K⟩:=l;rename_i A c A' c' cs;clear l y K i;have r:=ql e;obtain⟨p,b⟩:=af (e.parts);obtain⟨d,o⟩:=af (e.depth);have g:=qh (bm b o);rw[b,o] at r;have G:p<=1000000:=by omega
 clear b o;show Calls Tryz.prog 40 #[.agg (BC e A c A' e.ar.length c')] w _;go_enter Tryz.func40,Tryz.ntmps40;go_wp2_with fail;obtain⟨W,j⟩:=aC ((w.alloc (.cells (BC e A c A' e.ar.length c') 67 (0,0))));have a:IY w W:=by rw[j];exact ((Below.refl _ w).alloc (bl _) _)
 have B0:ah W (w.heap.size) 67 (BC e A c A' e.ar.length c'):=by
  rw[j];have:=ah.new w 67 (BC e A c A' e.ar.length c');exact this
 have q:W.heap.size=w.heap.size+1:=by rw[j];simp
 rw[<- j];clear j;refine (E5 e B _ W (t.o.keep (a.mono m)) (by omega) (by omega)).mono ?_;rw[g.o.1,g.o.2];rintro s u ⟨rfl,f⟩;have B0:=B0.below f B0.lt;have a:=a.trans (f.mono a.size);clear f q;obtain⟨E,F,x,J,z,I,H,D⟩:=ah.c8 B0;by_cases h3:300<p
 .have b3:decide ((300:Int)<(p:Nat))=true:=by simp;omega
  have k:=qh (show dh e=2 by unfold dh;rw[if_pos (.inl (by rw[g.o.1];exact h3))]);clear h3;go_wp2;go_ret;exact⟨ag (by rw[k.o]),a⟩
 have b3:decide ((300:Int)<(p:Nat))=false:=by simp;omega
 by_cases h20:20<d
 .have n:decide ((20:Int)<(d:Nat))=true:=by simp;omega
  have k:=qh (show dh e=2 by unfold dh;rw[if_pos (.inr (by rw[g.o.2];exact h20))]);clear h3 h20;go_wp2;go_ret;exact⟨ag (by rw[k.o]),a⟩
 have n:decide ((20:Int)<(d:Nat))=false:=by simp;omega
 have k:=qh (show dh e=e.fault by unfold dh;rw[if_neg (by rw[g.o.1,g.o.2];omega)]);clear h3 h20;go_wp2_with fail;refine (Qo e B _ u (t.o.keep (a.mono m)) (bo m a.size) v (aA C.o a)).mono ?_;rintro s M ⟨rfl,h⟩;have a:=a.trans (h.mono a.size);clear h E F x J z I H D;go_wp2;go_ret;exact⟨ag (by rw[k.o]),a⟩
def jq (l:List ByteArray):List Value:=l.map Value.string
theorem ND (l:List ByteArray):(jq l).length=l.length:=by simp[jq]
theorem Xn {l:List ByteArray} {k:Nat} {u:Value} (h:(jq l)[k]?=some u):∃ h:k<l.length,u = bg l[k]:=by
 unfold jq at h;rw[bB] at h;rcases hk:l[k]? with _ | x
 .rw[hk] at h;simp at h
 .rw[hk] at h;simp at h;obtain⟨b,a⟩:=List.getElem?_eq_some_iff.1 hk;exact⟨b,by rw[a,h]⟩
theorem Reads.plain {w:World} {B n:Nat} {A:Option Addr} {c:List Value} (h:Reads w B 1 A n c) (i:0<n):∃ b o,A=some ⟨b,o,none⟩/\b<B/\∀ j u,c[j]?=some u->w.cell? ⟨b,o+j,none⟩=some u:=by
 obtain⟨ad,rfl,g,d⟩:=h.2 i;have k:0<c.length:=by have:=h.1;omega
 have a:=d 0 _ (bw k);obtain⟨b,o,s⟩:=ad;have l:s=none:=by
  cases s with
  | none=>rfl
  | some z =>
   rw[show Addr.add ⟨b,o,some z⟩ 0=⟨b,o,some z⟩ from rfl] at a;unfold World.cell? at a;simp at a;split at a <;> simp at a
 subst l;refine⟨b,o,rfl,g,λ j u f=>?_⟩;have:=d j u f;unfold Addr.add at this;split at this
 .rename_i e;subst e;exact this
 .exact this
abbrev bV (w:World) (B:Nat) (A:Option Addr) (l:List ByteArray):Prop:=Reads w B 1 A l.length (jq l)
theorem bV.cells {w:World} {b o:Nat} {l:List ByteArray} (h:∀ j u,(jq l)[j]?=some u->w.cell? ⟨b,o+j,none⟩=some u):∀ j,j<l.length->w.cell? ⟨b,o+j,none⟩=some (bg (l.getD j ByteArray.empty)):=by
 intro j a;refine h j _ ?_;unfold jq;rw[bB,bw a];simp[List.getD,a]
theorem jG (A B:Option Addr) (c d B1 B2:Nat) (a b:List ByteArray) (w:World) (p:a.length<=maxLen) (k:b.length<=maxLen) (s:bV w B1 A a) (r:bV w B2 B b) :
  IE 16 #[bh A a.length c,bh B b.length d] w (bk (decide (a=b))):=by
 unfold maxLen at p k;by_cases hl:a.length=b.length
 .rcases bD a.length with h | h
  .have j:=bx h;have m:=bx (hl.symm.trans h);subst j m;exact (Tryz.slices_Equal_string_empty A B c 0 d w (by decide)).mono λ _ _ ⟨f,g⟩=>⟨by rw[f];rfl,g▸Below.refl _ _⟩
  .obtain⟨b1,l,rfl,-,n⟩:=s.plain h;obtain⟨b2,o,rfl,-,i⟩:=r.plain (by omega);refine (Tryz.slices_Equal_string b1 l a.length c b2 o b.length d a b w (bl _) (bl _) (by omega) (by omega) (bV.cells n) (bV.cells i)).mono λ _ _ ⟨f,q,g⟩=>⟨by rw[f,bE,bE],g▸(Below.refl _ _).drewN q⟩
 .exact (Tryz.slices_Equal_string_lens A B a.length c b.length d w hl).mono λ _ _ ⟨f,g⟩=>⟨by rw[f,show decide (a=b)=false from decide_eq_false (λ e=>hl (by rw[e]))],g▸Below.refl _ _⟩
theorem pq (A:Option Addr) (c B1:Nat) (a:List ByteArray) (s:ByteArray) (w:World) (j:a.length<=maxLen) (k:bV w B1 A a) :
  KG 90 #[bh A a.length c,bg s] w (bk (Lib.containsS a s)):=by
 unfold maxLen at j;rcases bD a.length with f | f
 .have g:=bx f;subst g;exact (Tryz.slices_Contains_string_empty A c s w).mono λ _ _ ⟨b,d⟩=>⟨by rw[b];rfl,d.symm⟩
 .obtain⟨b1,h,rfl,-,i⟩:=k.plain f;refine (Tryz.slices_Contains_string b1 h a.length c a s w (bl _) (by omega) (bV.cells i)).mono λ _ _ ⟨b,d⟩=>⟨?_,d.symm⟩;rw[b,bE]
def R0 (v:Value):Option (DataW Value × List MemPlace):=some (.held v,[])
def fK (kv:List (ByteArray × Value)) (s:ByteArray):Option Value:=match kv with
 | []=>none
 | p :: r=>if p.1=s then some p.2 else fK r s
structure aP (w:World) (b:Nat) (kv:List (ByteArray × Value)):Prop where
 ex:∃ D,w.ownsMap Tryz.prog 9 R0 b kv.length D/\Maps.IsMap D/\∀ (s:ByteArray) zd,D.atKey (.string s.data.toList) zd=(match fK kv s with | some v=>.held v | none=>zd)
theorem keyS {s:ByteArray} (h:s.size<=maxLen):keyOf Tryz.prog 9 (.string s)=some (.string s.data.toList):=WideMaps.keyOf_string_mk Tryz.underlying9 h
theorem aP.made (w:World):aP (w.alloc (.map #[] 0)) w.heap.size []:=⟨⟨.map [],World.ownsMap_made w _ _ _,Maps.isMap_empty,λ _ _=>rfl⟩⟩
theorem aP.lt {w:World} {b:Nat} {a:List (ByteArray × Value)} (h:aP w b a):b<w.heap.size:=h.ex.choose_spec.1.lt
theorem aP.kept {w w':World} {b:Nat} {kv:List (ByteArray × Value)} {row:Option Nat} (h:aP w b kv) (f:w.grownBy w' row) (a:some b≠row):aP w' b kv:=by
 obtain⟨D,c,d,e⟩:=h.ex;exact⟨⟨D,c.kept f a,d,e⟩⟩
theorem aP.same {w w':World} {b:Nat} {kv:List (ByteArray × Value)} (h:aP w b kv) (i:w'.heap[b]?=w.heap[b]?):aP w' b kv:=by
 obtain⟨D,⟨d,a,g,c⟩,e,f⟩:=h.ex;exact⟨⟨D,⟨d,a,i.trans g,c⟩,e,f⟩⟩
theorem aP.alloc {w:World} {b:Nat} {kv:List (ByteArray × Value)} (h:aP w b kv) (o:Obj):aP (w.alloc o) b kv:=h.same (Below.heap_alloc w o b h.lt)
theorem aP.setCell {w:World} {b:Nat} {kv:List (ByteArray × Value)} (h:aP w b kv) {p:Addr} (a:b≠p.block) (u:Value):aP (w.setCell p u) b kv:=h.same (Below.heap_setCell w p u b a)
theorem aP.below {w w':World} {b B:Nat} {kv:List (ByteArray × Value)} (h:aP w b kv) (c:Below B w w') (a:b<B):aP w' b kv:=h.same (c.block b a)
theorem aP.look {w:World} {b:Nat} {d:List (ByteArray × Value)} (h:aP w b d) {t e:TypeId} (m:Tryz.prog.underlying t=some (.map 9 e)) {z:Value} (j:(zeroValue e).run Tryz.prog w = .ok z w) {s:ByteArray} (n:s.size<=maxLen) :
  (bq t (.map (some b)) (bg s) true).run Tryz.prog w = .ok (.tuple #[(fK d s).getD z,bk (fK d s).isSome]) w:=by
 obtain⟨D,l,o,g⟩:=h.ex;obtain⟨v,ps,c,i⟩:=l.look_ok (Maps.string_keyed Tryz.underlying9) m j (zd:=.held z) (zp:=[]) rfl (keyS n);rw[c];have k:=g s (.held z);have a:(DataW.held v:DataW Value)=D.atKey (.string s.data.toList) (.held z):=by
  unfold R0 at i;exact (Prod.mk.inj (Option.some.inj i)).1
 rw[k] at a;cases hg:fK d s with
 | none =>
  rw[hg] at a;have f:Maps.has D (.string s.data.toList)=false:=Maps.has_false_of_atKey (λ zd=>by rw[g s zd,hg]);rw[f];rw[DataW.held.inj a];rfl
 | some u =>
  rw[hg] at a;have f:Maps.has D (.string s.data.toList)=true:=Maps.has_true_of_atKey (y:=.held u) (λ zd=>by rw[g s zd,hg]);rw[f];rw[DataW.held.inj a];rfl
theorem aP.store {w':World} {b:Nat} {c:List (ByteArray × Value)} {D:DataW Value} {s:ByteArray} {v:Value} (d:Maps.IsMap D) (f:∀ (s:ByteArray) zd,D.atKey (.string s.data.toList) zd=(match fK c s with | some v=>.held v | none=>zd))
  (a:w'.ownsMap Tryz.prog 9 R0 b (c.length+1) (D.put (.string s.data.toList) (.held v))):aP w' b ((s,v) :: c):=by
 refine⟨⟨_,a,d.put _ _,λ t zd=>?_⟩⟩;rw[fK];by_cases h:s=t
 .subst h;rw[if_pos rfl,Maps.atKey_put_same d (show WideAt.IsKeyLit (.string _) from trivial)]
 .rw[if_neg h,Maps.atKey_put_other (λ e=>h ?_),f t zd];have g:t.data.toList=s.data.toList:=by injection e
  exact (ByteArray.ext (Array.toList_inj.1 g)).symm
theorem jr {w:World} {d:Array Oper} {c:List Oper} {o:Oper} {a:Act} {Q:Exit->Act->World->Prop} (r:o.guard=none) (m x v:Operand) (t e:TypeId) (h:o.op=Op.mapUpdate t m x v)
  (y:Tryz.prog.underlying t=some (.map 9 e)) {b:Nat} {g:List (ByteArray × Value)} {s:ByteArray} {val:Value} (k:a.eval m = .map (some b)) (f:aP w b g) (u:g.length<maxLen) (A:a.eval x = .string s) (j:a.eval v=val) (B:s.size<=maxLen)
  (l:∀ w',aP w' b ((s,val) :: g)->w.grownBy w' (some b)->wpList Tryz.prog d Q c (a.put o.dst undef) w') :
  wpList Tryz.prog d Q (o :: c) a w:=by
 obtain⟨D,q,i,n⟩:=f.ex;exact wpList_mapUpdate_own w r m x v t h 9 e (Maps.string_keyed Tryz.underlying9) y R0 b g.length D k q u (.string s) val (.string s.data.toList) A j (keyS B) (.held val) [] rfl
  (λ w' p z=>l w' (aP.store i n p) z)
def aB {α:Type} (P:World->Nat->α->List Value->Prop) (size:Nat) (w:World) (B:Nat) (A:Option Addr) (l:List α):Prop:=
 l.length<=maxLen/\∃ cs,Reads w B size A l.length cs/\∀ i (h:i<l.length),P w B l[i] ((cs.drop (i*size)).take size)
section
variable {α:Type} {P:World->Nat->α->List Value->Prop} {size B:Nat} {w w':World} {A:Option Addr} {l:List α}
theorem aB.at_ (h:aB P size w B A l) {i:Nat} (d:i<l.length):∃ ad b,A=some ad/\ad.block<B/\P w B l[i] b/\∀ j u,b[j]?=some u->w.cell? ((ad.add (i*size)).add j)=some u:=by
 obtain⟨-,cs,e,c⟩:=h;obtain⟨ad,rfl,f,g⟩:=e.2 (by omega);refine⟨ad,_,rfl,f,c i d,λ j u a=>?_⟩;rw[qf];refine g _ u ?_;rw[bX] at a;split at a
 .rw[List.getElem?_drop] at a;exact a
 .cases a
theorem aB.keep (a:∀ d cs,P w B d cs->P w' B d cs) (h:aB P size w B A l) (g:Below B w w'):aB P size w' B A l:=by
 obtain⟨f,cs,e,b⟩:=h;exact⟨f,cs,e.below g,λ i c=>a _ _ (b i c)⟩
end
structure aQ where
 nm:ByteArray
 loops:List ByteArray
structure aG where
 nm:ByteArray
 kind:Int
 loops:List ByteArray
structure lV (w:World) (B:Nat) (d:aQ) (cs:List Value):Prop where
 ex:∃ A c,cs = [bg d.nm,bh A d.loops.length c]/\bV w B A d.loops/\d.loops.length<=c
 h1:d.nm.size<=maxLen
 h2:d.loops.length<=maxLen
 h3:∀ s∈d.loops,s.size<=maxLen
structure lu (w:World) (B:Nat) (d:aG) (cs:List Value):Prop where
 ex:∃ A c,cs = [bg d.nm,be bf d.kind,bh A d.loops.length c]/\bV w B A d.loops/\d.loops.length<=c
 h1:d.nm.size<=maxLen
 h2:d.loops.length<=maxLen
 h3:∀ s∈d.loops,s.size<=maxLen
theorem lV.keep {w w':World} {B:Nat} {d:aQ} {cs:List Value} (h:lV w B d cs) (i:Below B w w'):lV w' B d cs:=by
 obtain⟨⟨A,c,e,f,j⟩,a,b,g⟩:=h;exact⟨⟨A,c,e,f.below i,j⟩,a,b,g⟩
theorem lu.keep {w w':World} {B:Nat} {d:aG} {cs:List Value} (h:lu w B d cs) (i:Below B w w'):lu w' B d cs:=by
 obtain⟨⟨A,c,e,f,j⟩,a,b,g⟩:=h;exact⟨⟨A,c,e,f.below i,j⟩,a,b,g⟩
abbrev dX:=aB lV 2
abbrev bU:=aB lu 3
theorem dX.keep {w w':World} {B:Nat} {A:Option Addr} {l:List aQ} (h:dX w B A l) (a:Below B w w'):dX w' B A l:=aB.keep (λ _ _ h=>h.keep a) h a
theorem bU.keep {w w':World} {B:Nat} {A:Option Addr} {l:List aG} (h:bU w B A l) (a:Below B w w'):bU w' B A l:=aB.keep (λ _ _ h=>h.keep a) h a
theorem bV.take {w:World} {B:Nat} {A:Option Addr} {l:List ByteArray} (h:bV w B A l) (k:Nat):bV w B A (l.take k):=by
 refine⟨by rw[ND];simp,λ f=>?_⟩;have d:(l.take k).length<=l.length:=bK _ _;obtain⟨ad,e,b,c⟩:=h.2 (by omega);refine⟨ad,e,b,λ j u a=>c j u ?_⟩;unfold jq at a ⊢;rw[List.map_take,bX] at a;split at a
 .exact a
 .cases a
def dF (loops:List aQ) (at_:List ByteArray):Bool:=match at_.getLast? with
 | none=>true
 | some z=>loops.any (λ n=>decide (n.nm=z) && decide (n.loops=at_.dropLast))
def aH (prev:List aG) (c:aG):Int:=if aV c.nm.data.toList=false then 5 else if prev.any (λ d=>decide (d.nm=c.nm))=true then 6 else if aN c.kind 2 7=true then 4 else 0
def aJ (prev:List aQ) (n:aQ):Int:=if aV n.nm.data.toList=false then 5 else if prev.any (λ d=>decide (d.nm=n.nm))=true then 6 else if dF prev n.loops=false then 7 else 0
def aU {α:Type} (f:List α->α->Int):List α->List α->Int
 | _,[]=>0
 | prev,a :: r=>if f prev a≠0 then f prev a else aU f (prev ++ [a]) r
def bJ (cells:List aG) (loops:List aQ):Int:=
 if aU aH [] cells≠0 then aU aH [] cells else if aU aJ [] loops≠0 then aU aJ [] loops else
 if cells.any (λ c=>!dF loops c.loops)=true then 9 else 0
structure Kv (w:World) (B:Nat) (kv:List (ByteArray × Value)) (l:List aQ):Prop where
 no:∀ s,fK kv s=none->∀ d∈l,d.nm≠s
 yes:∀ s v,fK kv s=some v->∃ d cs,d∈l/\d.nm=s/\v = .agg cs.toArray/\lV w B d cs
 len:kv.length=l.length
 one:l.Pairwise (λ a b=>a.nm≠b.nm)
structure MR (w:World) (B:Nat) (kv:List (ByteArray × Value)) (l:List aG):Prop where
 no:∀ s,fK kv s=none->∀ d∈l,d.nm≠s
 yes:∀ s v,fK kv s=some v->∃ d cs,d∈l/\d.nm=s/\v = .agg cs.toArray/\lu w B d cs
 len:kv.length=l.length
 one:l.Pairwise (λ a b=>a.nm≠b.nm)
theorem Kv.keep {w w':World} {B:Nat} {a:List (ByteArray × Value)} {l:List aQ} (h:Kv w B a l) (i:Below B w w'):Kv w' B a l:=
 ⟨h.no,λ s v g=>by obtain⟨d,cs,b,e,f,c⟩:=h.yes s v g;exact⟨d,cs,b,e,f,c.keep i⟩,h.len,h.one⟩
theorem MR.keep {w w':World} {B:Nat} {a:List (ByteArray × Value)} {l:List aG} (h:MR w B a l) (i:Below B w w'):MR w' B a l:=
 ⟨h.no,λ s v g=>by obtain⟨d,cs,b,e,f,c⟩:=h.yes s v g;exact⟨d,cs,b,e,f,c.keep i⟩,h.len,h.one⟩
theorem Kv.nil (w:World) (B:Nat):Kv w B [] []:=⟨(λ _ _ d b=>by cases b),(λ s v a=>by cases a),rfl,List.Pairwise.nil⟩
theorem MR.nil (w:World) (B:Nat):MR w B [] []:=⟨(λ _ _ d b=>by cases b),(λ s v a=>by cases a),rfl,List.Pairwise.nil⟩
theorem Kv.add {w:World} {B:Nat} {i:List (ByteArray × Value)} {l:List aQ} (h:Kv w B i l) {d:aQ} {cs:List Value} (t:lV w B d cs) (u:fK i d.nm=none):Kv w B ((d.nm,.agg cs.toArray) :: i) (l ++ [d]):=by
 refine⟨λ s f x y=>?_,λ s v c=>?_,by simp[h.len],?_⟩
 .rw[fK] at f;split at f
  .cases f
  .rename_i j;rcases bL.1 y with e | e
   .exact h.no s f x e
   .rw[bs] at e;subst e;exact j
 .rw[fK] at c;split at c
  .rename_i q;injection c with c;exact⟨d,cs,by simp,q,c.symm,t⟩
  .obtain⟨m,g,e,n,p,r⟩:=h.yes s v c;exact⟨m,g,b0 _ e,n,p,r⟩
 .rw[b4];refine⟨h.one,b5 _ _,λ a o b k=>?_⟩;rw[bs] at k;subst k;exact h.no _ u a o
theorem MR.add {w:World} {B:Nat} {i:List (ByteArray × Value)} {l:List aG} (h:MR w B i l) {d:aG} {cs:List Value} (t:lu w B d cs) (u:fK i d.nm=none):MR w B ((d.nm,.agg cs.toArray) :: i) (l ++ [d]):=by
 refine⟨λ s f x y=>?_,λ s v c=>?_,by simp[h.len],?_⟩
 .rw[fK] at f;split at f
  .cases f
  .rename_i j;rcases bL.1 y with e | e
   .exact h.no s f x e
   .rw[bs] at e;subst e;exact j
 .rw[fK] at c;split at c
  .rename_i q;injection c with c;exact⟨d,cs,by simp,q,c.symm,t⟩
  .obtain⟨m,g,e,n,p,r⟩:=h.yes s v c;exact⟨m,g,b0 _ e,n,p,r⟩
 .rw[b4];refine⟨h.one,b5 _ _,λ a o b k=>?_⟩;rw[bs] at k;subst k;exact h.no _ u a o
theorem Cb {α:Type} {f:α->ByteArray} {l:List α} (h:l.Pairwise (λ a b=>f a≠f b)) {a b:α} (g:a∈l) (i:b∈l) (e:f a=f b):a=b:=by
 induction l with
 | nil=>cases g
 | cons x r ih =>
  rw[List.pairwise_cons] at h;rcases b6.1 g with c | c <;> rcases b6.1 i with d | d
  .rw[c,d]
  .subst c;exact absurd e (h.1 b d)
  .subst d;exact absurd e.symm (h.1 a c)
  .exact ih h.2 c d
theorem Qp {w:World} {B:Nat} {a:List (ByteArray × Value)} {l:List aQ} (h:Kv w B a l) {at_:List ByteArray} {z:ByteArray} (i:at_.getLast?=some z) :
  (fK a z=none/\dF l at_=false)\/∃ d cs,fK a z=some (.agg cs.toArray)/\lV w B d cs/\d∈l/\dF l at_=decide (d.loops=at_.dropLast):=by
 cases hg:fK a z with
 | none =>
  refine .inl ⟨rfl,?_⟩;unfold dF;rw[i];simp only;rw[b7];intro d m;have:=h.no z hg d m;simp[this]
 | some v =>
  obtain⟨d,cs,c,g,j,k⟩:=h.yes z v hg;refine .inr ⟨d,cs,by rw[j],k,c,?_⟩;unfold dF;rw[i];simp only;rw[Bool.eq_iff_iff,bA,decide_eq_true_iff];constructor
  .rintro ⟨x,n,b⟩;rw[Bool.and_eq_true,decide_eq_true_iff,decide_eq_true_iff] at b;have:=Cb (f:=aQ.nm) h.one n c (by rw[b.1,g]);subst this;exact b.2
  .intro e;exact⟨d,c,by rw[Bool.and_eq_true,decide_eq_true_iff,decide_eq_true_iff];exact⟨g,e⟩⟩
theorem NF {α:Type} {f:α->ByteArray} {l:List α} {s:ByteArray} (h:∀ d∈l,f d≠s):l.any (λ d=>decide (f d=s))=false:=by
 rw[b7];intro d a;simpa using h d a
theorem Jk {α:Type} {f:α->ByteArray} {l:List α} {s:ByteArray} {d:α} (a:d∈l) (h:f d=s):l.any (λ d=>decide (f d=s))=true:=bA.2 ⟨d,a,by simpa using h⟩
end Go.Proofs.YtcnagconagpkcaaGreatDoor
namespace Go.Proofs.YtcnagconagpkcaaGreatDoor
open Go.RowKit
attribute [local go_sem ↓] Go.wp_at_zero Go.wp_at_succ
theorem oM (w:World):(zeroValue 184).run Tryz.prog w = .ok (.agg #[bg ⟨#[]⟩,bh none 0 0]) w:=by kernel_rfl
theorem SN {l:List ByteArray} (h:0<l.length):∃ z,l.getLast?=some z/\l[l.length - 1]?=some z:=by
 have a:l.length - 1<l.length:=by omega
 refine⟨l[l.length - 1],?_,bw a⟩;rw[List.getLast?_eq_getElem?];exact bw a
theorem yZ (at_:List ByteArray) (A:Option Addr) (c N j B:Nat) (kv:List (ByteArray × Value)) (l:List aQ) (w:World) (ha:at_.length<=maxLen) (Y:∀ s∈at_,s.size<=maxLen) (hx:bV w B A at_) (hc:at_.length<=c) (hB:B<=w.heap.size) (hm:aP w j kv) (F:Kv w B kv l) :
  IE 122 #[.agg #[.map (some N),.map (some j)],bh A at_.length c] w (bk (dF l at_)):=by
 have M:=qh (bm hx hB);have HM:=qh hm;have R:=qh F;have HS:=qh Y;have HA:=qh ha;have ad:((at_.length:Nat):Int) - 1<=(c:Nat):=by omega
 unfold maxLen at ha;clear hx hB hm F Y;rcases bD at_.length with x | x
 .have e1:=bx x;subst e1;clear x;go_enter Tryz.func122,Tryz.ntmps122;go_wp2_with (fail);go_ret;exact⟨rfl,(Below.refl _ _).alloc (bl _) _⟩
 .obtain⟨z,hz,u⟩:=SN x;obtain⟨b,o,rfl,hb,n⟩:=M.o.1.plain x;have C:w.cell? ⟨b,o+(at_.length - 1),none⟩=some (bg z):=n _ _ (by unfold jq;rw[bB,u];rfl);have I:z.size<=maxLen:=HS.o z (List.mem_of_getElem? u);have HN:=qh (Qp R.o hz);have aa:(1:Int)<=(at_.length:Nat):=by omega
  have bn:((at_.length:Int) == 0)=false:=by rw[beq_eq_false_iff_ne];omega
  clear n hz u;have Q:b<w.heap.size:=by have:=M.o.2;omega
  have O:=qh M.o;clear M;go_enter Tryz.func122,Tryz.ntmps122;go_upto_region 3 with (fail);obtain⟨W,E⟩:=aC ((w.alloc (bj #[.map (some N),.map (some j)] 162 (0,0))));have i:IY w W:=by rw[E];exact ((Below.refl _ w).alloc (bl _) _)
  have B0:ah W (w.heap.size) 162 #[.map (some N),.map (some j)]:=by
   rw[E];have:=ah.new w 162 #[.map (some N),.map (some j)];exact this
  have P:W.heap.size=w.heap.size+1:=by rw[E];simp
  rw[<- E];clear P;have L:=qh (HM.o.below i HM.o.lt);have v:W.cell? ⟨b,o+(at_.length - 1),none⟩=some (bg z):=by rw[i.cell (by exact Q)];exact C
  have G:W.cell? ⟨w.heap.size,1,none⟩=some (.map (some j)):=B0.cell 1;clear C E;have i0:IntKind.i64.wrap ((at_.length:Int) - 1)=(at_.length:Int) - 1:=IntWalk.i64_in _ (by omega);have i1:((at_.length:Int) - 1).toNat=at_.length - 1:=by omega
  have i2:(0:Int)<=(at_.length:Int) - 1:=by omega
  have i3:(at_.length:Int) - 1<(at_.length:Int):=by omega
  rcases HN.o with ⟨K,H⟩ | ⟨d,ds,K,hd,ac,H⟩
  .skip
   have p:∀ w',IY W w'->(bq 160 (.map (some j)) (bg z) true).run Tryz.prog w' = .ok (.tuple #[.agg #[bg ⟨#[]⟩,bh none 0 0],bk false]) w':=λ w' m=>by
    have h:=(L.o.below m L.o.lt).look Tryz.underlying160 (oM w') I;rw[K] at h;exact h
   have J:=qh p;have T:=qh H;have U:=J.o W (Below.refl _ _);have a:=Below.refl W.heap.size W;have r:=qh (λ w' (t:IY W w')=>bm (Below.cell_of t G) (bm (Below.cell_of t v) (bm (J.o w' t) t)));clear p H K;go_region_held3 (λ w'=>w'.cell? ⟨w.heap.size,1,none⟩=some (.map (some j))/\w'.cell? ⟨b,o+(at_.length - 1),none⟩=some (bg z)/\(bq 160 (.map (some j)) (bg z) true).run Tryz.prog w' = .ok (.tuple #[.agg #[bg ⟨#[]⟩,bh none 0 0],bk false]) w'/\IY W w') (first | exact r.o _ a.drew | exact r.o _ (a.alloc (bl _) _) | exact r.o _ (a.alloc (bl _) _).drew | exact r.o _ (a.drew.alloc (bl _) _) | exact r.o _ a) (fail)
   all_goals
    obtain⟨W2,g⟩:=aC ((W.alloc (bj #[bg ⟨#[]⟩,bh none 0 0] 184 (0,0))).drew);have q:IY W W2:=g▸((Below.refl _ W).alloc (bl _) _).drew;have f:=i.trans (q.mono i.size);have B2:ah W2 W.heap.size 184 #[bg ⟨#[]⟩,bh none 0 0]:=g▸(ah.new W _ _).drew;rw[<- g];clear g;clear q B2;go_upto_region 4 with (fail);go_quiet (fail);go_wp2_with (fail);go_ret;exact⟨au (by rw[T.o]),f.drewN _⟩
  .obtain⟨⟨A',c',rfl,Z,ae⟩,ab,D,S⟩:=hd;have X:=qh (bm Z D);clear Z D S;have p:∀ w',IY W w'->(bq 160 (.map (some j)) (bg z) true).run Tryz.prog w' = .ok (.tuple #[.agg #[bg d.nm,bh A' d.loops.length c'],bk true]) w':=λ w' m=>by
    have h:=(L.o.below m L.o.lt).look Tryz.underlying160 (oM w') I;rw[K] at h;exact h
   have J:=qh p;have T:=qh H;have U:=J.o W (Below.refl _ _);have a:=Below.refl W.heap.size W;have r:=qh (λ w' (t:IY W w')=>bm (Below.cell_of t G) (bm (Below.cell_of t v) (bm (J.o w' t) t)));clear p H K;go_region_held3 (λ w'=>w'.cell? ⟨w.heap.size,1,none⟩=some (.map (some j))/\w'.cell? ⟨b,o+(at_.length - 1),none⟩=some (bg z)/\(bq 160 (.map (some j)) (bg z) true).run Tryz.prog w' = .ok (.tuple #[.agg #[bg d.nm,bh A' d.loops.length c'],bk true]) w'/\IY W w') (first | exact r.o _ a.drew | exact r.o _ (a.alloc (bl _) _) | exact r.o _ (a.alloc (bl _) _).drew | exact r.o _ (a.drew.alloc (bl _) _) | exact r.o _ a) (fail)
   all_goals
    obtain⟨W2,g⟩:=aC ((W.alloc (bj #[bg d.nm,bh A' d.loops.length c'] 184 (0,0))).drew);have q:IY W W2:=g▸((Below.refl _ W).alloc (bl _) _).drew;have f:=i.trans (q.mono i.size);have B2:ah W2 W.heap.size 184 #[bg d.nm,bh A' d.loops.length c']:=g▸(ah.new W _ _).drew;rw[<- g];clear g;have k:(at_.take (at_.length - 1)).length=at_.length - 1:=by rw[bN];omega
    have k1:∀ w':World,IY W2 w'->IE 16 #[bh A' d.loops.length c',bh (some ⟨b,o,none⟩) (at_.length - 1) c] w' (bk (decide (d.loops=at_.dropLast))):=λ w' m=>by
     have y:=f.trans (m.mono f.size);have h:=jG A' (some ⟨b,o,none⟩) c' c B B d.loops (at_.take (at_.length - 1)) w' X.o.2 (by rw[k];have:=HA.o;omega) (X.o.1.below (y.mono O.o.2)) ((O.o.1.take _).below (y.mono O.o.2));rw[k,<- List.dropLast_eq_take] at h;exact h
    have K1:=qh (Later.call k1);have r1:=Later.cell (show W2.cell? ⟨W.heap.size,1,none⟩=some (bh A' d.loops.length c') from B2.cell 1);clear k1 q B2 k;go_upto_region 4 with (fail);refine aF (by kernel_rfl) (by kernel_rfl) ?_
    repeat (go_big_quiet_step (with_reducible exact K1.o _))
    refine wpQuiet_nil ?_;intro _ V;obtain⟨⟨W9,eP⟩,rfl⟩:=V;go_wp2_with fail;go_ret;exact⟨au (by rw[T.o]),f.trans (eP.mono f.size)⟩
end Go.Proofs.YtcnagconagpkcaaGreatDoor
namespace Go.Proofs.YtcnagconagpkcaaGreatDoor
open Go.RowKit
theorem zeroCell (w:World):(zeroValue 51).run Tryz.prog w = .ok (.agg #[bg ⟨#[]⟩,be bf 0,bh none 0 0]) w:=by kernel_rfl
theorem endW {d:Func} {s t:Tmp} {tmps:Array Value} {w a:World} {g b:Nat} {r q a0 a1 n:Value} {Q:Ending->World->Prop} (j:d.results = #[.cell s 162,.tmp t]) (o:tmps[s]?.getD undef = bi (some ⟨g,0,none⟩)) (m:tmps[t]?.getD undef=n) (B:ah a g 162 #[r,q]) (l:Below b w a) (f:b<=g) (h:∀ W,W=(a.setCell ⟨g,0,none⟩ a0).setCell ⟨g,1,none⟩ a1->Below b w W->Q (.returned (.tuple #[.agg #[a0,a1],n])) W) :
  bodyPost Tryz.prog d Q Exit.ret { tmps:=tmps,defers:=[] } ((a.setCell ⟨g,0,none⟩ a0).setCell ⟨g,1,none⟩ a1):=by
 obtain⟨W,c⟩:=aC ((a.setCell ⟨g,0,none⟩ a0).setCell ⟨g,1,none⟩ a1);have e:ah W g 162 #[a0,a1]:=c▸((B.eG 0 _).eG 1 _);have i:=h W c (c▸((l.setCell (p:=⟨g,0,none⟩) f _).setCell (p:=⟨g,1,none⟩) f _));rw[<- c];have k:W.cell? ⟨g,0,none⟩=some a0:=e.cell 0;have u:W.cell? ⟨g,1,none⟩=some a1:=e.cell 1;exact bodyPost_ret (v:=.tuple #[.agg #[a0,a1],n]) (by simp[results,j,go_sem,o,m,k,u]) rfl i
structure WoR (en:Ending) (w w':World) (B:Nat) (cells:List aG) (loops:List aQ):Prop where
 ex:∃ f:Int,en = .returned (.tuple #[.agg #[.map (some (w.heap.size+1)),.map (some (w.heap.size+1+1))],be bf f])/\f=bJ cells loops/\(f=0->∃ jl jv,aP w' (w.heap.size+1) jl/\aP w' (w.heap.size+1+1) jv/\MR w' B jl cells/\Kv w' B jv loops)
 hb:IY w w'
theorem DI (cells:List aG) (loops:List aQ) (AC:Option Addr) (cc:Nat) (AN:Option Addr) (cn B:Nat) (w:World) (hC:bU w B AC cells) (hN:dX w B AN loops) (F:B<=w.heap.size) :
  Calls Tryz.prog 75 #[bh AC cells.length cc,bh AN loops.length cn] w λ en w'=>WoR en w w' B cells loops:=by
 have ax:=qh hC;have a3:=qh hN;have a7:=hC.1;have a1:=hN.1;unfold maxLen at a7 a1;have bd:=qh (bm hC.1 hN.1);clear hC hN;have a0:=@run_makeMap Tryz.prog;go_enter Tryz.func75,Tryz.ntmps75;go_wp2;obtain⟨W,hW⟩:=aC ((((w.alloc (bj #[.map none,.map none] 162 (0,0))).alloc (.map #[] 0)).alloc (.map #[] 0)).alloc (bj #[.map (some (w.heap.size+1)),.map (some (w.heap.size+1+1))] 162 (0,0)));rw[<- hW];clear a0;have a:IY w W:=hW▸((((Below.refl _ w).alloc (bl _) _).alloc (by simp) _).alloc (by simp;try omega) _).alloc (by simp;try omega) _;have BR:ah W w.heap.size 162 #[.map none,.map none]:=hW▸(((ah.new w _ _).alloc _).alloc _).alloc _;have m:ah W (w.heap.size+1+1+1) 162 #[.map (some (w.heap.size+1)),.map (some (w.heap.size+1+1))]:=by
  rw[hW];have:=ah.new (((w.alloc (bj #[.map none,.map none] 162 (0,0))).alloc (.map #[] 0)).alloc (.map #[] 0)) 162 #[.map (some (w.heap.size+1)),.map (some (w.heap.size+1+1))]
  rwa [bp,bp,bp] at this
 have Kw:=qh (show aP W (w.heap.size+1) [] by
  rw[hW];have:=((aP.made (w.alloc (bj #[.map none,.map none] 162 (0,0)))).alloc (.map #[] 0)).alloc (bj #[.map (some (w.heap.size+1)),.map (some (w.heap.size+1+1))] 162 (0,0))
  rwa [bp] at this)
 have a9:=qh (show aP W (w.heap.size+1+1) [] by
  rw[hW];have:=(aP.made ((w.alloc (bj #[.map none,.map none] 162 (0,0))).alloc (.map #[] 0))).alloc (bj #[.map (some (w.heap.size+1)),.map (some (w.heap.size+1+1))] 162 (0,0))
  rwa [bp,bp] at this)
 have y:=qh (bm BR m);clear hW BR m;go_loopw [22] (λ i wr=>∃ (k:Nat) (jl:List (ByteArray × Value)),k<=cells.length/\i = be bf k/\Hid (aU aH [] cells=aU aH (cells.take k) (cells.drop k))/\Hid (aP wr (w.heap.size+1) jl/\MR wr B jl (cells.take k))/\Hid (aP wr (w.heap.size+1+1) [])/\Hid (ah wr (w.heap.size) 162 #[.map none,.map none]/\ah wr (w.heap.size+1+1+1) 162 #[.map (some (w.heap.size+1)),.map (some (w.heap.size+1+1))])/\IY w wr) (λ i _=>cells.length - (intOf i).toNat)
 case atStart=>exact⟨0,[],bt _,rfl,qh rfl,qh ⟨Kw.o,MR.nil _ _⟩,a9,y,a⟩
 case round =>
  obtain⟨k,jl,hk,rfl,HD,C,Q,y,q⟩:=hrel;have G:=q.size;have ui:=q.mono F;have an:w.heap.size+1+1+1<wr.heap.size:=y.o.2.lt;by_cases hlt:k<cells.length
  .obtain⟨ad,ci,rfl,hb,D,e⟩:=(ax.o.keep ui).at_ hlt;obtain⟨d,R⟩:=af (cells[k]);have lq:=qh (show aU aH [] cells=if aH (cells.take k) d≠0 then aH (cells.take k) d else aU aH (cells.take (k+1)) (cells.drop (k+1)) by
    rw[HD.o,b9 hlt,R,aU,br hlt,R])
   have ac:=qh (show cells.take (k+1)=cells.take k ++ [d] by rw[br hlt,R]);rw[R] at D;have aW:=qh hlt;have nP:=qh D;obtain⟨⟨A,c,rfl,wK,P⟩,E,N,O⟩:=D;obtain⟨kC,kT,nZ⟩:=IC e;have nR:=qh (bm wK (bm P (bm N O)));clear e R wK P N O;go_wp2_with fail;obtain⟨W1,o⟩:=aC (wr.alloc (bj #[bg d.nm,be bf d.kind,bh A d.loops.length c] 51 (0,0)));have b:IY wr W1:=o▸(Below.refl _ wr).alloc (bl _) _;have t:ah W1 wr.heap.size 51 #[bg d.nm,be bf d.kind,bh A d.loops.length c]:=o▸ah.new wr _ _;rw[<- o];have a:=q.trans (b.mono G);have BR:=y.o.1.below b y.o.1.lt;have m:=y.o.2.below b y.o.2.lt;have z:=qh (bm (C.o.1.below b C.o.1.lt) (C.o.2.keep (b.mono (bo F G))));have Qq:=qh (nP.o.keep (b.mono (bo F G)));obtain⟨bn,l⟩:=af (aV d.nm.data.toList);have T:=qh l;clear l kC kT nZ;refine (lU d.nm W1 E).mono ?_;rw[T.o];rintro en w2 ⟨rfl,rfl⟩;obtain⟨L,J,K,H⟩:=ah.z2 BR;obtain⟨n,I⟩:=ah.c2 m;have uf:W1.cell? ⟨wr.heap.size,0,none⟩=some (bg d.nm):=t.cell 0;have ug:W1.cell? ⟨wr.heap.size,1,none⟩=some (be bf d.kind):=t.cell 1;have Cc:W1.cell? ⟨wr.heap.size,2,none⟩=some (bh A d.loops.length c):=t.cell 2;cases bn
   .have U:=qh (show bJ cells loops=5 by
     have h:=lq.o;rw[if_pos (by unfold aH;rw[if_pos T.o];decide)] at h;unfold bJ;rw[if_pos (by rw[h];unfold aH;rw[if_pos T.o];decide),h];unfold aH;rw[if_pos T.o])
    clear o;go_wp2;exact endW rfl rfl rfl BR a (bl _) λ W9 _ X=>⟨⟨5,rfl,U.o.symm,λ h=>by cases h⟩,X⟩
   cases u:fK jl d.nm with
   | some v =>
    obtain⟨d',bb,al,ab,rfl,ap⟩:=C.o.2.yes _ _ u;obtain⟨⟨A2,c2,rfl,-,-⟩,-,-,-⟩:=ap;have V:(bq 159 (.map (some (w.heap.size+1))) (bg d.nm) true).run Tryz.prog W1 = .ok (.tuple #[.agg #[bg d'.nm,be bf d'.kind,bh A2 d'.loops.length c2],bk true]) W1:=by
     have h:=z.o.1.look Tryz.underlying159 (zeroCell W1) E;rw[u] at h;exact h
    have U:=qh (show bJ cells loops=6 by
     have ae:(cells.take k).any (λ x=>decide (x.nm=d.nm))=true:=Jk (f:=aG.nm) al ab;have hf:aH (cells.take k) d=6:=by unfold aH;rw[if_neg (by rw[T.o];simp),if_pos ae]
     have h:=lq.o;rw[hf,if_pos (by decide)] at h;unfold bJ;rw[if_pos (by rw[h];decide),h])
    clear u al ab o;go_upto_region 8 with (fail);obtain⟨W2,s⟩:=aC (W1.alloc (bj #[bg d'.nm,be bf d'.kind,bh A2 d'.loops.length c2] 51 (0,0)));have j:IY W1 W2:=s▸(Below.refl _ W1).alloc (bl _) _;rw[<- s];have a:=a.trans (j.mono a.size);have BR:=BR.below j BR.lt;have m:=m.below j m.lt;clear s j V L J K H n I uf ug Cc;obtain⟨L,J,K,H⟩:=ah.z2 BR;obtain⟨n,I⟩:=ah.c2 m;go_wp2;exact endW rfl rfl rfl BR a (bl _) λ W9 _ X=>⟨⟨6,rfl,U.o.symm,λ h=>by cases h⟩,X⟩
   | none =>
    have V:(bq 159 (.map (some (w.heap.size+1))) (bg d.nm) true).run Tryz.prog W1 = .ok (.tuple #[.agg #[bg ⟨#[]⟩,be bf 0,bh none 0 0],bk false]) W1:=by
     have h:=z.o.1.look Tryz.underlying159 (zeroCell W1) E;rw[u] at h;exact h
    have HG:=qh u;have Fj:=qh (show (cells.take k).any (λ x=>decide (x.nm=d.nm))=false from NF (f:=aG.nm) (z.o.2.no _ u));clear u o;go_upto_region 8 with (fail);obtain⟨W2,s⟩:=aC (W1.alloc (bj #[bg ⟨#[]⟩,be bf 0,bh none 0 0] 51 (0,0)));have j:IY W1 W2:=s▸(Below.refl _ W1).alloc (bl _) _;rw[<- s];have a:=a.trans (j.mono a.size);have BR:=BR.below j BR.lt;have m:=m.below j m.lt;have t:=t.below j t.lt;have Z:=qh (bm (z.o.1.below j z.o.1.lt) (z.o.2.keep (j.mono (bo F (bo G b.size)))));have Xo:=qh (Qq.o.keep (j.mono (bo F (bo G b.size))));have ay:wr.heap.size<W2.heap.size:=t.lt;have S:=b.trans (j.mono b.size);clear s V L J K H n I uf ug Cc z Qq;obtain⟨L,J,K,H⟩:=ah.z2 BR;obtain⟨n,I⟩:=ah.c2 m;have uf:W2.cell? ⟨wr.heap.size,0,none⟩=some (bg d.nm):=t.cell 0;have ug:W2.cell? ⟨wr.heap.size,1,none⟩=some (be bf d.kind):=t.cell 1;have Cc:W2.cell? ⟨wr.heap.size,2,none⟩=some (bh A d.loops.length c):=t.cell 2;obtain⟨ok,aL⟩:=af (aN d.kind 2 7);have aq:=qh aL;clear aL;go_wp2_with fail;refine (aX d.kind 2 7 W2).mono ?_;rw[aq.o];rintro en w3 ⟨rfl,rfl⟩;cases ok;rotate_left
    .have U:=qh (show bJ cells loops=4 by
      have hf:aH (cells.take k) d=4:=by unfold aH;rw[if_neg (by rw[T.o];simp),if_neg (by rw[Fj.o];simp),if_pos aq.o]
      have h:=lq.o;rw[hf,if_pos (by decide)] at h;unfold bJ;rw[if_pos (by rw[h];decide),h])
     go_wp2;exact endW rfl rfl rfl BR a (bl _) λ W9 _ X=>⟨⟨4,rfl,U.o.symm,λ h=>by cases h⟩,X⟩
    have HZ:=qh (show aH (cells.take k) d=0 by unfold aH;rw[if_neg (by rw[T.o];simp),if_neg (by rw[Fj.o];simp),if_neg (by rw[aq.o];simp)]);go_wp2_with (at_mapUpdate;refine jr rfl _ _ _ 159 51 rfl Tryz.underlying159 rfl Z.o.1 ?c1 rfl rfl ?c2 ?_)
    case c1 =>
     have h1:=Z.o.2.len;have h2:(cells.take k).length<=cells.length:=bK _ _;rw[h1];unfold maxLen;have:=aW.o;rw[bN];omega
    case c2=>exact E
    intro W3 ar r;have bc:W2.heap.size<=W3.heap.size:=r.size;have a6:B<=w.heap.size+1:=by omega
    have aw:IY w W3:=a.grown r a.size (λ g u=>by injection u with u;omega);have M:Below B W2 W3:=((Below.refl B W2).grown r (by omega) (λ g u=>by injection u with u;omega));have ao:=qh (show aP W3 (w.heap.size+1) _/\MR W3 B _ (cells.take (k+1)) from ⟨ar,by rw[ac.o];exact (Z.o.2.keep M).add (Xo.o.keep M) HG.o⟩);have av:=qh (show ah W3 (w.heap.size) 162 #[.map none,.map none]/\ah W3 (w.heap.size+1+1+1) 162 #[.map (some (w.heap.size+1)),.map (some (w.heap.size+1+1))] from ⟨BR.grown r (by simp;try omega),m.grown r (by simp;try omega)⟩);have Us:=qh ((Q.o.below S Q.o.lt).kept r (by simp;try omega));have aa:=qh (show aU aH [] cells=aU aH (cells.take (k+1)) (cells.drop (k+1)) by rw[lq.o,if_neg (by rw[HZ.o];simp)]);clear r M L J K H n I uf ug Cc;go_wp2;go_roundw
    case rel=>exact⟨k+1,_,aW.o,by go_num,aa,ao,Us,av,aw⟩
    case measure =>
     have:=aW.o;simp[intOf];omega
  .have am:cells.take k=cells:=bv (by omega);have wL:=qh (show aU aH [] cells=0 by rw[HD.o,ca (by omega)];rfl);rw[am] at C;clear am;have Y:=qh (show aP wr (w.heap.size+1+1) [] from Q.o);have IG:=qh C.o;have a:=q;clear HD;go_wp2;go_loopw [53] (λ i wr=>∃ (k:Nat) (jv:List (ByteArray × Value)),k<=loops.length/\i = be bf k/\Hid (aU aJ [] loops=aU aJ (loops.take k) (loops.drop k))/\Hid (aP wr (w.heap.size+1+1) jv/\Kv wr B jv (loops.take k))/\Hid (aP wr (w.heap.size+1) jl/\MR wr B jl cells)/\Hid (ah wr (w.heap.size) 162 #[.map none,.map none]/\ah wr (w.heap.size+1+1+1) 162 #[.map (some (w.heap.size+1)),.map (some (w.heap.size+1+1))])/\IY w wr) (λ i _=>loops.length - (intOf i).toNat)
   case atStart=>exact⟨0,[],bt _,rfl,qh rfl,qh ⟨Y.o,Kv.nil _ _⟩,IG,y,a⟩
   case round =>
    clear IG Y C Q y q ui an G a;obtain⟨k,jv,hk,rfl,HD,C,Q,y,q⟩:=hrel;have G:=q.size;have ui:=q.mono F;have an:w.heap.size+1+1+1<wr.heap.size:=y.o.2.lt;by_cases hlt:k<loops.length
    .obtain⟨ad,ci,rfl,hb,D,e⟩:=(a3.o.keep ui).at_ hlt;obtain⟨d,R⟩:=af (loops[k]);have lq:=qh (show aU aJ [] loops=if aJ (loops.take k) d≠0 then aJ (loops.take k) d else aU aJ (loops.take (k+1)) (loops.drop (k+1)) by
      rw[HD.o,b9 hlt,R,aU,br hlt,R])
     have ac:=qh (show loops.take (k+1)=loops.take k ++ [d] by rw[br hlt,R]);rw[R] at D;have aW:=qh hlt;have nP:=qh D;obtain⟨⟨A,c,rfl,wK,P⟩,E,N,O⟩:=D;obtain⟨kC,kT⟩:=H7 e;have nR:=qh (bm wK (bm P (bm N O)));clear e R wK P N O;go_wp2_with fail;obtain⟨W1,o⟩:=aC (wr.alloc (bj #[bg d.nm,bh A d.loops.length c] 184 (0,0)));have b:IY wr W1:=o▸(Below.refl _ wr).alloc (bl _) _;have t:ah W1 wr.heap.size 184 #[bg d.nm,bh A d.loops.length c]:=o▸ah.new wr _ _;rw[<- o];have a:=q.trans (b.mono G);have BR:=y.o.1.below b y.o.1.lt;have m:=y.o.2.below b y.o.2.lt;have z:=qh (bm (C.o.1.below b C.o.1.lt) (C.o.2.keep (b.mono (bo F G))));have Qq:=qh (nP.o.keep (b.mono (bo F G)));obtain⟨bn,l⟩:=af (aV d.nm.data.toList);have T:=qh l;clear l kC kT;refine (lU d.nm W1 E).mono ?_;rw[T.o];rintro en w2 ⟨rfl,rfl⟩;obtain⟨L,J,K,H⟩:=ah.z2 BR;obtain⟨n,I⟩:=ah.c2 m;obtain⟨uf,ug⟩:=ah.c2 t;cases bn
     .have U:=qh (show bJ cells loops=5 by
       have h:=lq.o;rw[if_pos (by unfold aJ;rw[if_pos T.o];decide)] at h;unfold bJ;rw[if_neg (by rw[wL.o];simp),if_pos (by rw[h];unfold aJ;rw[if_pos T.o];decide),h];unfold aJ;rw[if_pos T.o])
      clear o;go_wp2;exact endW rfl rfl rfl BR a (bl _) λ W9 _ X=>⟨⟨5,rfl,U.o.symm,λ h=>by cases h⟩,X⟩
     cases u:fK jv d.nm with
     | some v =>
      obtain⟨d',bb,al,ab,rfl,ap⟩:=C.o.2.yes _ _ u;obtain⟨⟨A2,c2,rfl,-,-⟩,-,-,-⟩:=ap;have V:(bq 160 (.map (some (w.heap.size+1+1))) (bg d.nm) true).run Tryz.prog W1 = .ok (.tuple #[.agg #[bg d'.nm,bh A2 d'.loops.length c2],bk true]) W1:=by
       have h:=z.o.1.look Tryz.underlying160 (oM W1) E;rw[u] at h;exact h
      have U:=qh (show bJ cells loops=6 by
       have ae:(loops.take k).any (λ x=>decide (x.nm=d.nm))=true:=Jk (f:=aQ.nm) al ab;have hf:aJ (loops.take k) d=6:=by unfold aJ;rw[if_neg (by rw[T.o];simp),if_pos ae]
       have h:=lq.o;rw[hf,if_pos (by decide)] at h;unfold bJ;rw[if_neg (by rw[wL.o];simp),if_pos (by rw[h];decide),h])
      clear u al ab o;go_upto_region 20 with (fail);obtain⟨W2,s⟩:=aC (W1.alloc (bj #[bg d'.nm,bh A2 d'.loops.length c2] 184 (0,0)));have j:IY W1 W2:=s▸(Below.refl _ W1).alloc (bl _) _;rw[<- s];have a:=a.trans (j.mono a.size);have BR:=BR.below j BR.lt;have m:=m.below j m.lt;clear s j V L J K H n I uf ug;obtain⟨L,J,K,H⟩:=ah.z2 BR;obtain⟨n,I⟩:=ah.c2 m;go_wp2;exact endW rfl rfl rfl BR a (bl _) λ W9 _ X=>⟨⟨6,rfl,U.o.symm,λ h=>by cases h⟩,X⟩
     | none =>
      have V:(bq 160 (.map (some (w.heap.size+1+1))) (bg d.nm) true).run Tryz.prog W1 = .ok (.tuple #[.agg #[bg ⟨#[]⟩,bh none 0 0],bk false]) W1:=by
       have h:=z.o.1.look Tryz.underlying160 (oM W1) E;rw[u] at h;exact h
      have HG:=qh u;have Fj:=qh (show (loops.take k).any (λ x=>decide (x.nm=d.nm))=false from NF (f:=aQ.nm) (z.o.2.no _ u));clear u o;go_upto_region 20 with (fail);obtain⟨W2,s⟩:=aC (W1.alloc (bj #[bg ⟨#[]⟩,bh none 0 0] 184 (0,0)));have j:IY W1 W2:=s▸(Below.refl _ W1).alloc (bl _) _;rw[<- s];have a:=a.trans (j.mono a.size);have BR:=BR.below j BR.lt;have m:=m.below j m.lt;have t:=t.below j t.lt;have Z:=qh (bm (z.o.1.below j z.o.1.lt) (z.o.2.keep (j.mono (bo F (bo G b.size)))));have Xo:=qh (Qq.o.keep (j.mono (bo F (bo G b.size))));have ay:wr.heap.size<W2.heap.size:=t.lt;have S:=b.trans (j.mono b.size);clear s V L J K H n I uf ug z Qq;obtain⟨L,J,K,H⟩:=ah.z2 BR;obtain⟨n,I⟩:=ah.c2 m;obtain⟨uf,ug⟩:=ah.c2 t;obtain⟨nb,ak⟩:=af (dF (loops.take k) d.loops);have Ut:=qh ak;clear ak;go_wp2_with fail;refine (yZ d.loops A c (w.heap.size+1) (w.heap.size+1+1) B jv (loops.take k) W2 nR.o.2.2.1 nR.o.2.2.2 (nR.o.1.below (S.mono (bo F G))) nR.o.2.1 (by omega) Z.o.1 Z.o.2).mono ?_;rw[Ut.o];rintro en W4 ⟨rfl,l⟩;have a:=a.trans (l.mono a.size);have BR:=BR.below l BR.lt;have m:=m.below l m.lt;have t:=t.below l t.lt;have Z:=qh (bm (Z.o.1.below l Z.o.1.lt) (Z.o.2.keep (l.mono (by omega))));have Xo:=qh (Xo.o.keep (l.mono (by omega)));have ay:wr.heap.size<W4.heap.size:=t.lt;have S:=S.trans (l.mono (by omega));clear l L J K H n I uf ug;obtain⟨L,J,K,H⟩:=ah.z2 BR;obtain⟨n,I⟩:=ah.c2 m;obtain⟨uf,ug⟩:=ah.c2 t;cases nb
      .have U:=qh (show bJ cells loops=7 by
        have hf:aJ (loops.take k) d=7:=by unfold aJ;rw[if_neg (by rw[T.o];simp),if_neg (by rw[Fj.o];simp),if_pos Ut.o]
        have h:=lq.o;rw[hf,if_pos (by decide)] at h;unfold bJ;rw[if_neg (by rw[wL.o];simp),if_pos (by rw[h];decide),h])
       go_wp2;exact endW rfl rfl rfl BR a (bl _) λ W9 _ X=>⟨⟨7,rfl,U.o.symm,λ h=>by cases h⟩,X⟩
      have HZ:=qh (show aJ (loops.take k) d=0 by unfold aJ;rw[if_neg (by rw[T.o];simp),if_neg (by rw[Fj.o];simp),if_neg (by rw[Ut.o];simp)]);go_wp2_with (at_mapUpdate;refine jr rfl _ _ _ 160 184 rfl Tryz.underlying160 rfl Z.o.1 ?c1 rfl rfl ?c2 ?_)
      case c1 =>
       have h1:=Z.o.2.len;have h2:(loops.take k).length<=loops.length:=bK _ _;rw[h1];unfold maxLen;have:=aW.o;rw[bN];omega
      case c2=>exact E
      intro W3 ar r;have bc:W4.heap.size<=W3.heap.size:=r.size;have a6:B<=w.heap.size+1+1:=by omega
      have aw:IY w W3:=a.grown r a.size (λ g u=>by injection u with u;omega);have M:Below B W4 W3:=((Below.refl B W4).grown r (by omega) (λ g u=>by injection u with u;omega));have ao:=qh (show aP W3 (w.heap.size+1+1) _/\Kv W3 B _ (loops.take (k+1)) from ⟨ar,by rw[ac.o];exact (Z.o.2.keep M).add (Xo.o.keep M) HG.o⟩);have av:=qh (show ah W3 (w.heap.size) 162 #[.map none,.map none]/\ah W3 (w.heap.size+1+1+1) 162 #[.map (some (w.heap.size+1)),.map (some (w.heap.size+1+1))] from ⟨BR.grown r (by simp;try omega),m.grown r (by simp;try omega)⟩);have Us:=qh (bm ((Q.o.1.below S (Q.o.1.lt)).kept r (by simp;try omega)) ((Q.o.2.keep (S.mono (bo F G))).keep M));have aa:=qh (show aU aJ [] loops=aU aJ (loops.take (k+1)) (loops.drop (k+1)) by rw[lq.o,if_neg (by rw[HZ.o];simp)]);clear r M L J K H n I uf ug;go_wp2;go_roundw
      case rel=>exact⟨k+1,_,aW.o,by go_num,aa,ao,Us,av,aw⟩
      case measure =>
       have:=aW.o;simp[intOf];omega
    .have am:loops.take k=loops:=bv (by omega);have aE:=qh (show aU aJ [] loops=0 by rw[HD.o,ca (by omega)];rfl);rw[am] at C;clear am;have a4:True:=trivial;clear a4;go_wp2;go_loopw [86] (λ i wr=>∃ k:Nat,k<=cells.length/\i = be bf k/\Hid (∀ x∈cells.take k,dF loops x.loops=true)/\Hid (aP wr (w.heap.size+1) jl/\MR wr B jl cells)/\Hid (aP wr (w.heap.size+1+1) jv/\Kv wr B jv loops)/\Hid (ah wr (w.heap.size) 162 #[.map none,.map none]/\ah wr (w.heap.size+1+1+1) 162 #[.map (some (w.heap.size+1)),.map (some (w.heap.size+1+1))])/\IY w wr) (λ i _=>cells.length - (intOf i).toNat)
     case atStart=>exact⟨0,bt _,rfl,qh (by simp),qh Q.o,qh C.o,y,q⟩
     case round =>
      clear C Q y q ui an G;obtain⟨k,hk,rfl,aa,Q,C,y,q⟩:=hrel;have G:=q.size;have ui:=q.mono F;have an:w.heap.size+1+1+1<wr.heap.size:=y.o.2.lt;by_cases hlt:k<cells.length
      .obtain⟨ad,ci,rfl,hb,D,e⟩:=(ax.o.keep ui).at_ hlt;obtain⟨d,R⟩:=af (cells[k]);have ac:=qh (show cells.take (k+1)=cells.take k ++ [d] by rw[br hlt,R]);have SQ:=qh (show d∈cells by rw[<- R];exact bS hlt);rw[R] at D;have aW:=qh hlt;obtain⟨⟨A,c,rfl,wK,P⟩,E,N,O⟩:=D;obtain⟨kC,kT,nZ⟩:=IC e;have nR:=qh (bm wK (bm P (bm N O)));clear e R wK P N O;obtain⟨nb,ak⟩:=af (dF loops d.loops);have Ut:=qh ak;clear ak;go_upto_region 29 with (fail);obtain⟨W1,o⟩:=aC (wr.alloc (bj #[bg d.nm,be bf d.kind,bh A d.loops.length c] 51 (0,0)));have b:IY wr W1:=o▸(Below.refl _ wr).alloc (bl _) _;have t:ah W1 wr.heap.size 51 #[bg d.nm,be bf d.kind,bh A d.loops.length c]:=o▸ah.new wr _ _;rw[<- o];have a:=q.trans (b.mono G);have BR:=y.o.1.below b y.o.1.lt;have m:=y.o.2.below b y.o.2.lt;have Y:=qh (bm (Q.o.1.below b Q.o.1.lt) (Q.o.2.keep (b.mono (bo F G))));have z:=qh (bm (C.o.1.below b C.o.1.lt) (C.o.2.keep (b.mono (bo F G))));clear o kC kT nZ;obtain⟨L,J,K,H⟩:=ah.z2 BR;obtain⟨n,I⟩:=ah.c2 m;have uf:W1.cell? ⟨wr.heap.size,0,none⟩=some (bg d.nm):=t.cell 0;have ug:W1.cell? ⟨wr.heap.size,1,none⟩=some (be bf d.kind):=t.cell 1;have Cc:W1.cell? ⟨wr.heap.size,2,none⟩=some (bh A d.loops.length c):=t.cell 2;go_wp2_with fail;refine (yZ d.loops A c (w.heap.size+1) (w.heap.size+1+1) B jv loops W1 nR.o.2.2.1 nR.o.2.2.2 (nR.o.1.below (b.mono (bo F G))) nR.o.2.1 (bo F a.size) z.o.1 z.o.2).mono ?_;rw[Ut.o];rintro en W4 ⟨rfl,l⟩;have a:=a.trans (l.mono a.size);have BR:=BR.below l BR.lt;have m:=m.below l m.lt;have Af:=qh (bm (Y.o.1.below l Y.o.1.lt) (Y.o.2.keep (l.mono (by have:=b.size;omega))));have ba:=qh (bm (z.o.1.below l z.o.1.lt) (z.o.2.keep (l.mono (by have:=b.size;omega))));clear l b t L J K H n I uf ug Cc;obtain⟨L,J,K,H⟩:=ah.z2 BR;obtain⟨n,I⟩:=ah.c2 m;cases nb
       .have U:=qh (show bJ cells loops=9 by
         unfold bJ;rw[if_neg (by rw[wL.o];simp),if_neg (by rw[aE.o];simp),if_pos (bA.2 ⟨d,SQ.o,by rw[Ut.o];rfl⟩)])
        go_wp2;exact endW rfl rfl rfl BR a (bl _) λ W9 _ X=>⟨⟨9,rfl,U.o.symm,λ h=>by cases h⟩,X⟩
       have a5:=qh (show ∀ x∈cells.take (k+1),dF loops x.loops=true by
        rw[ac.o];intro x hx;rcases bL.1 hx with h | h
        .exact aa.o x h
        .rw[bs] at h;rw[h];exact Ut.o)
       have a8:=qh (bm BR m);clear BR m L J K H n I;go_wp2;go_roundw
       case rel=>exact⟨k+1,aW.o,by go_num,a5,Af,ba,a8,a⟩
       case measure =>
        have:=aW.o;simp[intOf];omega
      .have U:=qh (show bJ cells loops=0 by
        have h:=aa.o;rw[bv (by omega)] at h;unfold bJ;rw[if_neg (by rw[wL.o];simp),if_neg (by rw[aE.o];simp),if_neg];intro hc;obtain⟨x,hx,aD⟩:=bA.1 hc;rw[h x hx] at aD;cases aD)
       have BR:=y.o.1;have m:=y.o.2;have b:BR=BR:=rfl;clear b;obtain⟨L,J,K,H⟩:=ah.z2 BR;obtain⟨n,I⟩:=ah.c2 m;go_wp2;obtain⟨W9,iE⟩:=aC ((wr.setCell ⟨w.heap.size,0,none⟩ (.map (some (w.heap.size+1)))).setCell ⟨w.heap.size,1,none⟩ (.map (some (w.heap.size+1+1))));have B9:ah W9 (w.heap.size) 162 #[.map (some (w.heap.size+1)),.map (some (w.heap.size+1+1))]:=iE▸((BR.eG 0 _).eG 1 _);have dB:IY w W9:=iE▸((q.setCell (p:=⟨w.heap.size,0,none⟩) (bl _) _).setCell (p:=⟨w.heap.size,1,none⟩) (bl _) _);have aM:aP W9 (w.heap.size+1) jl/\MR W9 B jl cells:=iE▸⟨(Q.o.1.setCell (p:=⟨w.heap.size,0,none⟩) (by show _≠w.heap.size;omega) _).setCell (p:=⟨w.heap.size,1,none⟩) (by show _≠w.heap.size;omega) _,Q.o.2.keep (((Below.refl B wr).setCell (p:=⟨w.heap.size,0,none⟩) F _).setCell (p:=⟨w.heap.size,1,none⟩) F _)⟩;have aR:aP W9 (w.heap.size+1+1) jv/\Kv W9 B jv loops:=iE▸⟨(C.o.1.setCell (p:=⟨w.heap.size,0,none⟩) (by show _≠w.heap.size;omega) _).setCell (p:=⟨w.heap.size,1,none⟩) (by show _≠w.heap.size;omega) _,C.o.2.keep (((Below.refl B wr).setCell (p:=⟨w.heap.size,0,none⟩) F _).setCell (p:=⟨w.heap.size,1,none⟩) F _)⟩;rw[<- iE];clear iE;obtain⟨kV,a2⟩:=ah.c2 B9;exact bodyPost_ret (v:=.tuple #[.agg #[.map (some (w.heap.size+1)),.map (some (w.heap.size+1+1))],be bf 0]) (by simp[results,Tryz.results75,go_sem,kV,a2]) rfl ⟨⟨0,rfl,U.o.symm,λ _=>⟨jl,jv,aM.1,aR.1,aM.2,aR.2⟩⟩,dB⟩
end Go.Proofs.YtcnagconagpkcaaGreatDoor
