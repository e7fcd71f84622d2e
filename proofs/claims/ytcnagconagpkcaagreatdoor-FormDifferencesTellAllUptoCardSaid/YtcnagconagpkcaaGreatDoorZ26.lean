/- Lemmas. -/
import Derived.Test.YtcnagconagpkcaaGreatDoorZ25
open Go.Value renaming int->a3, string->a9, slice->ba, pointer->bb, bool->bc
open Go.IntKind renaming i64->a8
open Go.Ending renaming returned->bd
open Nat renaming le_trans->be, le_refl->bg, zero_le->bi, eq_zero_or_pos->bv, le_succ->bA
open List renaming drop_length->bf, getElem?_append_right->bk, getElem_mem->bn, length_map->bo, eq_nil_of_length_eq_zero->bp, lt_trans->bq, flatMap_cons->br, getElem?_eq_some_iff->bs, mem_cons->bt, nil_append->bw, append_nil->bx
open And renaming intro->bh
open Bool renaming true_and->bj, and_eq_true->bl
open Decidable renaming byContradiction->bm
namespace Go.Proofs.YtcnagconagpkcaaGreatDoor
open Go.RowKit
attribute [local go_sem ↓] Go.wp_at_zero Go.wp_at_succ
attribute [local go_sem ↓] ld_item st_item ld_node st_node ld_ans st_ans ld_part st_part ld_rule st_rule ld_form st_form
set_option maxHeartbeats 4000000
set_option maxRecDepth 100000
def RF (x y:Val):Int:=if mQ x.k y.k≠0 then mQ x.k y.k else if mQ x.n y.n≠0 then mQ x.n y.n else if Lib.compareBytes x.s.data.toList y.s.data.toList≠0 then Lib.compareBytes x.s.data.toList y.s.data.toList else cmpL x.l y.l
theorem V8 {x y:Val}:RF x y=0 ↔ x=y:=by
 constructor
 .intro h;unfold RF at h;split at h
  .rename_i q;exact absurd h q
  split at h
  .rename_i q;exact absurd h q
  split at h
  .rename_i q;exact absurd h q
  rename_i b c a;have d:=Bl (bm b);have g:=Bl (bm c);have e3:=bm a;rw[JC] at e3;have e3:=Um (Bo e3);have e:=Bo h;have f:x.s=y.s:=ByteArray.ext (Array.ext' e3);cases x;cases y;simp_all
 .rintro rfl;unfold RF;rw[if_neg (by rw[xu];simp),if_neg (by rw[xu];simp),if_neg (by rw[JC,Bq];simp),Bq]
theorem aap (x y:Val) (A B:Option Addr) (c d b a:Nat) (w:World) (f:x.l.length<=maxLen) (m:y.l.length<=maxLen)
  (j:Reads w b 1 A x.l.length (bF a8 x.l)) (l:Reads w a 1 B y.l.length (bF a8 y.l)) (o:b<=w.heap.size) (k:a<=w.heap.size) :
  CS 226 #[.agg (BK x A c),.agg (BK y B d)] w (a3 a8 (RF x y)):=by
 cases b1:(mQ x.k y.k != 0);cases b2:(mQ x.n y.n != 0);cases b3:(Lib.compareBytes x.s.data.toList y.s.data.toList != 0)
 all_goals
  have i:=qh b1
  try have g:=qh b2
  try have n:=qh b3
  go_enter Tryz.func226,Tryz.ntmps226;go_wp2_with (first
   | (go_at_call 251;(refine (zt _ _ _).mono ?_);rintro e w' ⟨rfl,rfl⟩)
   | (go_at_call 181;(refine (Tryz.strings_Compare _ _ _).mono ?_);rintro e w' ⟨rfl,rfl⟩)
   | (go_at_call 252;(refine (Uk _ _ _ _ _ _ b a _ _ _ f m ((j.alloc (by omega) _).alloc (by simp;omega) _) ((l.alloc (by omega) _).alloc (by simp;omega) _) (by simp;omega) (by simp;omega)).mono ?_);rintro e q ⟨rfl,h⟩))
  go_ret;have p:=i.o
  try have r:=g.o
  try have e3:=n.o
  refine⟨ai (by unfold RF;simp_all),?_⟩
  first
   | exact (((Below.refl _ _).alloc (bg _) _).alloc (by simp) _)
   | exact (((Below.refl _ _).alloc (bg _) _).alloc (by simp) _).trans (h.mono (by simp;omega))
def aaq (e:Ex):Prop:=∀ (y:Ex) (C1 C2:Nat) (cs ds:List Value) (w:World),aQ w C1 e cs->aQ w C2 y ds->C1<=w.heap.size->C2<=w.heap.size->CS 196 #[.agg cs.toArray,.agg ds.toArray] w (bc (bI e y))
section
attribute [local go_sem ↓] ld_ex st_ex
theorem Az {l f:List Ex} {A A':Option Addr} {c c' O L:Nat} {w:World} (T:∀ x∈l,aaq x) (h:au aQ 8 w O A l) (I:au aQ 8 w L A' f) (n:O<=w.heap.size) (o:L<=w.heap.size) :
  CS 152 #[ba A l.length c,ba A' f.length c'] w (bc (bI l f)):=by
 rw[<- CU];have C:=qh h;have F:=qh I;have P:=qh T;have V:=h.1;have N:=I.1;unfold maxLen at V N;clear h I T;by_cases hll:l.length=f.length
 case neg =>
  have U:((l.length:Int) != (f.length:Int))=true:=bne_iff_ne.2 (by omega);have Z:=qh (pM (E:=bI) hll);go_enter Tryz.func152,Tryz.ntmps152;go_wp2;go_ret;exact⟨aj Z.o.symm,Below.refl _ _⟩
 have U:((l.length:Int) != (f.length:Int))=false:=by simp[hll]
 have vF:=qh hll;have aa:l.length<=f.length:=by omega
 clear hll;go_enter Tryz.func152,Tryz.ntmps152;go_wp2_with fail;go_loopw [13,5] (λ i _ wz=>∃ k:Nat,k<=l.length/\i = a3 a8 k/\Hid (EG w wz)/\Hid (nJ bI l f=nJ bI (l.drop k) (f.drop k))) (λ i _ _=>l.length - (intOf i).toNat)
 case atStart=>exact⟨0,bi _,rfl,qh (Below.refl _ _),qh rfl⟩
 case round =>
  obtain⟨k,hk,rfl,a,p⟩:=hrel;by_cases hlt:k<l.length
  .have q:k<f.length:=by omega
   have v:=a.o.size;obtain⟨ad,Y,rfl,-,m,g⟩:=au.at_ (C.o.keep (λ _ _ h=>h.keep (a.o.mono n)) (a.o.mono n)) hlt;obtain⟨qQ,wZ,rfl,-,H,d⟩:=au.at_ (F.o.keep (λ _ _ h=>h.keep (a.o.mono o)) (a.o.mono o)) q;have p:=qh (p.o.trans (oL hlt q));have r:=bn hlt;obtain⟨x,Q⟩:=af (l[k]);obtain⟨y,R⟩:=af (f[k]);rw[Q] at m p r;rw[R] at H p;obtain⟨B,-⟩:=wY m;obtain⟨G,-⟩:=wY H;have J:(Tryz.prog.info? 67).map (·.size)=some 8:=by kernel_rfl
   have s:=(Below.refl wr.heap.size wr).drew;have l1:=gu (w:=wr.drew) (t:=67) Tryz.underlying67 rfl (by rw[B];exact J) (λ j u M=>Below.cell_of s (g j u M));have l2:=gu (w:=wr.drew) (t:=67) Tryz.underlying67 rfl (by rw[G];exact J) (λ j u M=>Below.cell_of s (d j u M));obtain⟨b,K⟩:=af (bI x y);have X:=qh (K▸P.o x r y O L Y wZ wr.drew (m.keep (s.mono (be n v))) (H.keep (s.mono (be o v))) (be n v) (be o v));rw[K] at p;have S:=qh hlt;have W:=qh (a.o.trans (s.mono v));clear Q R g d m H B G J s K r C F P;go_upto_region 6 with (fail);cases b
   all_goals
    go_region_with (go_at_call 196;(with_reducible refine X.o.mono ?_);rintro _ w3 ⟨rfl,z⟩;have D:=qh (W.o.trans (z.mono v));clear z)
   rotate_left
   all_goals try (go_wp2;go_ret;exact⟨aj (by rw[p.o];rfl),D.o⟩)
   all_goals
    go_wp2;go_roundw
    case rel=>exact⟨k+1,S.o,by go_num,D,qh (p.o.trans (bj _))⟩
    case measure =>
     have:=S.o;simp[intOf];omega
  .have e:k=l.length:=by omega
   subst e;have HT:=qh (show nJ bI l f=true by rw[p.o,bf,vF.o,bf];rfl);go_wp2_with fail;go_ret;exact⟨aj HT.o.symm,a.o⟩
end
theorem aar (x y:Val):bI x y=(RF x y == 0):=dE (by rw[beq_iff_eq,V8])
theorem AO (e:Ex):aaq e:=by
 induction e using Ex.ind with
 | h e ih =>
 intro y C1 C2 cs ds w k m f g;obtain⟨ac,aa,F,H,k,C,z⟩:=k;rename_i t n o v A;obtain⟨ae,ad,K,G,m,E,x⟩:=m;rename_i s q p u I;have ha:au aQ 8 w C1 o e.ar:=⟨H,A,C,z⟩;have D:au aQ 8 w C2 p y.ar:=⟨G,I,E,x⟩;show Calls Tryz.prog 196 #[.agg (BC e t n o e.ar.length v),.agg (BC y s q p y.ar.length u)] w _;obtain⟨W,O,b,j,i,ab⟩:=Ro w 67 67 (BC e t n o e.ar.length v) (BC y s q p y.ar.length u);have B:=qh (show ∀ a,EG W a->a.cell? ⟨w.heap.size,0,none⟩=some (a3 a8 e.k)/\a.cell? ⟨w.heap.size,1,none⟩=some (a3 a8 e.op)/\a.cell? ⟨w.heap.size,2,none⟩=some (a9 e.nm)/\a.cell? ⟨w.heap.size,3,none⟩=some (a3 a8 e.v.k)/\a.cell? ⟨w.heap.size,4,none⟩=some (a3 a8 e.v.n)/\a.cell? ⟨w.heap.size,5,none⟩=some (a9 e.v.s)/\a.cell? ⟨w.heap.size,6,none⟩=some (ba t e.v.l.length n)/\a.cell? ⟨w.heap.size,7,none⟩=some (ba o e.ar.length v)/\a.cell? ⟨w.heap.size+1,0,none⟩=some (a3 a8 y.k)/\a.cell? ⟨w.heap.size+1,1,none⟩=some (a3 a8 y.op)/\a.cell? ⟨w.heap.size+1,2,none⟩=some (a9 y.nm)/\a.cell? ⟨w.heap.size+1,3,none⟩=some (a3 a8 y.v.k)/\a.cell? ⟨w.heap.size+1,4,none⟩=some (a3 a8 y.v.n)/\a.cell? ⟨w.heap.size+1,5,none⟩=some (a9 y.v.s)/\a.cell? ⟨w.heap.size+1,6,none⟩=some (ba s y.v.l.length q)/\a.cell? ⟨w.heap.size+1,7,none⟩=some (ba p y.ar.length u) from λ a c=>by
  have j:=j.below c j.lt;have i:=i.below c i.lt;exact⟨j.cell 0,j.cell 1,j.cell 2,j.cell 3,j.cell 4,j.cell 5,j.cell 6,j.cell 7,i.cell 0,i.cell 1,i.cell 2,i.cell 3,i.cell 4,i.cell 5,i.cell 6,i.cell 7⟩)
 have d:=qh (Below.refl W.heap.size W);have T:=qh b;obtain⟨a0,a1,a2,Q,S,X,a6,M,Z,b1,b2,b3,Y,R,P,U⟩:=B.o _ d.o;obtain⟨g0,e0⟩:=af ((e.k == y.k));obtain⟨V,e1⟩:=af ((e.op == y.op));obtain⟨g2,e2⟩:=af ((e.nm.toList == y.nm.toList));obtain⟨m3,l⟩:=af (RF e.v y.v);obtain⟨g3,e3⟩:=af ((m3 == 0));have K3:=qh (show ∀ a,EG W a->Calls Tryz.prog 226 #[.agg #[a3 a8 e.v.k,a3 a8 e.v.n,a9 e.v.s,ba t e.v.l.length n],.agg #[a3 a8 y.v.k,a3 a8 y.v.n,a9 y.v.s,ba s y.v.l.length q]] a λ L w'=>L = bd (a3 a8 m3)/\EG a w' from λ a c=>l▸aap e.v y.v t s n q C1 C2 a F K (k.below ((b.trans (c.mono b.size)).mono f)) (m.below ((b.trans (c.mono b.size)).mono g)) (be f (b.trans (c.mono b.size)).size) (be g (b.trans (c.mono b.size)).size));obtain⟨N,J⟩:=af (bI e.ar y.ar);have K4:=qh (show ∀ a,EG W a->Calls Tryz.prog 152 #[ba o e.ar.length v,ba p y.ar.length u] a λ L w'=>L = bd (bc N)/\EG a w' from λ a c=>J▸Az ih (ha.keep (λ _ _ h=>h.keep ((b.trans (c.mono b.size)).mono f)) ((b.trans (c.mono b.size)).mono f)) (D.keep (λ _ _ h=>h.keep ((b.trans (c.mono b.size)).mono g)) ((b.trans (c.mono b.size)).mono g)) (be f (b.trans (c.mono b.size)).size) (be g (b.trans (c.mono b.size)).size));have HR:=qh (show bI e y=(g0 && V && g2 && g3 && N) from by rw[aam,<- dQ,<- dQ,<- lu,aar,e0,e1,e2,l,e3,J]);clear J;clear l;go_enter Tryz.func196,Tryz.ntmps196;go_upto_region 1 with (fail);rw[<- O];clear O;cases g0;rotate_left;cases V;rotate_left;cases g2;rotate_left;cases g3;rotate_left
 all_goals
  go_wp2_with (first | (go_at_call 226;(with_reducible refine (K3.o _ d.o).mono ?_);rintro _ wq ⟨rfl,r⟩;have d:=qh (d.o.trans (r.mono d.o.size));obtain⟨a0,a1,a2,Q,S,X,a6,M,Z,b1,b2,b3,Y,R,P,U⟩:=B.o _ d.o;clear r) | (go_at_call 152;(with_reducible refine (K4.o _ d.o).mono ?_);rintro _ wq ⟨rfl,r⟩;have d:=qh (d.o.trans (r.mono d.o.size));obtain⟨a0,a1,a2,Q,S,X,a6,M,Z,b1,b2,b3,Y,R,P,U⟩:=B.o _ d.o;clear r));go_ret;exact⟨aj (by rw[HR.o];first | rfl | simp),T.o.trans (d.o.mono T.o.size)⟩
theorem oq {l b:List Ex} {A A':Option Addr} {c c' e f:Nat} {w:World} (h:au aQ 8 w e A l) (g:au aQ 8 w f A' b) (d:e<=w.heap.size) (a:f<=w.heap.size) :
  Hl 152 #[ba A l.length c,ba A' b.length c'] w (bc (bI l b)) w :=Az (λ x _=>AO x) h g d a
theorem uV (A B:Option Addr) (c d g e:Nat) (b a:List ByteArray) (w:World) (k:b.length<=maxLen) (n:a.length<=maxLen) (i:Reads w g 1 A b.length (iZ b)) (j:Reads w e 1 B a.length (iZ a)) (h:g<=w.heap.size) (f:e<=w.heap.size) :
  CS 101 #[ba A b.length c,ba B a.length d] w (bc (decide (b=a))):=by
 have l:=qh (qR A B b.length c a.length d g e b a w k n i j h f);clear i j;go_enter Tryz.func101,Tryz.ntmps101;go_wp2_with (go_at_call 141;(with_reducible refine l.o.mono ?_);rintro _ p ⟨rfl,m⟩);go_ret;exact⟨rfl,m⟩
theorem Ir {x y:ItemD} {o L X k n B1 B2 B3 p K V l m O Q2 S:Option Addr} {q Q N r v b1 b2 b3 s p2 Z u t T F q3:Nat} {U Y:Nat} {w:World} (h:acL w U x o k n) (z:acL w Y y p l m) (d:U<=w.heap.size) (e:Y<=w.heap.size) :
  CS 100 #[.agg (Bg x o q L Q X N k r B1 b1 B2 b2 B3 b3 n v),.agg (Bg y p s K p2 V Z l u O T Q2 F S q3 m t)] w (bc (PL x y)):=by
 obtain⟨W,I,a,i,f,aa⟩:=Ro w 59 59 (Bg x o q L Q X N k r B1 b1 B2 b2 B3 b3 n v) (Bg y p s K p2 V Z l u O T Q2 F S q3 m t);have G:=qh (show ∀ b,EG W b->b.cell? ⟨w.heap.size,0,none⟩=some (a3 a8 x.k)/\b.cell? ⟨w.heap.size,2,none⟩=some (ba o x.iff.length q)/\b.cell? ⟨w.heap.size,5,none⟩=some (bc x.sh)/\b.cell? ⟨w.heap.size,6,none⟩=some (ba k x.cnt.length r)/\b.cell? ⟨w.heap.size,7,none⟩=some (a9 x.over)/\b.cell? ⟨w.heap.size,18,none⟩=some (ba n x.cmp.length v)/\b.cell? ⟨w.heap.size+1,0,none⟩=some (a3 a8 y.k)/\b.cell? ⟨w.heap.size+1,2,none⟩=some (ba p y.iff.length s)/\b.cell? ⟨w.heap.size+1,5,none⟩=some (bc y.sh)/\b.cell? ⟨w.heap.size+1,6,none⟩=some (ba l y.cnt.length u)/\b.cell? ⟨w.heap.size+1,7,none⟩=some (a9 y.over)/\b.cell? ⟨w.heap.size+1,18,none⟩=some (ba m y.cmp.length t) from λ b c=>by
  have i:=i.below c i.lt;have f:=f.below c f.lt;exact⟨i.cell 0,i.cell 2,i.cell 5,i.cell 6,i.cell 7,i.cell 18,f.cell 0,f.cell 2,f.cell 5,f.cell 6,f.cell 7,f.cell 18⟩)
 have g:=qh (Below.refl W.heap.size W);have M:=qh a;obtain⟨a0,a2,a5,a6,a7,PK,b0,b2,b5,b6,b7,A⟩:=G.o _ g.o;obtain⟨R,e0⟩:=af ((x.k == y.k));obtain⟨B,C⟩:=af (bI x.iff y.iff);have K1:=qh (show ∀ b,EG W b->Calls Tryz.prog 152 #[ba o x.iff.length q,ba p y.iff.length s] b λ j w'=>j = bd (bc B)/\EG b w' from λ b c=>C▸oq (h.h1.keep (λ _ _ h=>h.keep ((a.trans (c.mono a.size)).mono d)) ((a.trans (c.mono a.size)).mono d)) (z.h1.keep (λ _ _ h=>h.keep ((a.trans (c.mono a.size)).mono e)) ((a.trans (c.mono a.size)).mono e)) (be d (a.trans (c.mono a.size)).size) (be e (a.trans (c.mono a.size)).size));obtain⟨g2,e2⟩:=af ((x.sh == y.sh));obtain⟨E,e3⟩:=af (bI x.cnt y.cnt);have K3:=qh (show ∀ b,EG W b->Calls Tryz.prog 152 #[ba k x.cnt.length r,ba l y.cnt.length u] b λ j w'=>j = bd (bc E)/\EG b w' from λ b c=>e3▸oq (h.h4.keep (λ _ _ h=>h.keep ((a.trans (c.mono a.size)).mono d)) ((a.trans (c.mono a.size)).mono d)) (z.h4.keep (λ _ _ h=>h.keep ((a.trans (c.mono a.size)).mono e)) ((a.trans (c.mono a.size)).mono e)) (be d (a.trans (c.mono a.size)).size) (be e (a.trans (c.mono a.size)).size));obtain⟨H,e4⟩:=af ((x.over.toList == y.over.toList));obtain⟨J,D⟩:=af (bI x.cmp y.cmp);have K5:=qh (show ∀ b,EG W b->Calls Tryz.prog 152 #[ba n x.cmp.length v,ba m y.cmp.length t] b λ j w'=>j = bd (bc J)/\EG b w' from λ b c=>D▸oq (h.h5.keep (λ _ _ h=>h.keep ((a.trans (c.mono a.size)).mono d)) ((a.trans (c.mono a.size)).mono d)) (z.h5.keep (λ _ _ h=>h.keep ((a.trans (c.mono a.size)).mono e)) ((a.trans (c.mono a.size)).mono e)) (be d (a.trans (c.mono a.size)).size) (be e (a.trans (c.mono a.size)).size));have HR:=qh (show PL x y=(R && B && g2 && E && H && J) from by unfold PL;rw[<- dQ x.k,<- dQ x.sh,<- lu,e0,C,e2,e3,e4,D]);clear C;clear e3;clear D;go_enter Tryz.func100,Tryz.ntmps100;go_upto_region 1 with (fail);rw[<- I];clear I;cases R;rotate_left;cases B;rotate_left;cases g2;rotate_left;cases E;rotate_left;cases H;rotate_left
 all_goals
  go_wp2_with (first | (go_at_call 152;(first | (with_reducible refine (K1.o _ g.o).mono ?_) | (with_reducible refine (K3.o _ g.o).mono ?_) | (with_reducible refine (K5.o _ g.o).mono ?_));rintro _ wq ⟨rfl,P⟩;have g:=qh (g.o.trans (P.mono g.o.size));obtain⟨a0,a2,a5,a6,a7,PK,b0,b2,b5,b6,b7,A⟩:=G.o _ g.o;clear P));go_ret;exact⟨aj (by rw[HR.o];first | rfl | simp),M.o.trans (g.o.mono M.o.size)⟩
set_option maxHeartbeats 4000000
set_option maxRecDepth 100000
noncomputable def qV (x y:gq):Bool:=bI x.soft y.soft && bI x.must y.must && decide (x.ph=y.ph)
theorem V9 {x y:gq}:qV x y=true ↔ x=y:=by
 unfold qV;cases x;cases y;simp only[bl,dD,decide_eq_true_eq,gq.mk.injEq];constructor
 .rintro ⟨⟨b,c⟩,a⟩;exact⟨c,b,a⟩
 .rintro ⟨b,c,a⟩;exact⟨⟨c,b⟩,a⟩
theorem Pj {w:World} {B:Nat} {r:gq} {cs:List Value} (h:iO w B r cs):∃ a A c,cs=a ++ [bc r.soft,ba A r.ph.length c]/\a.length=8/\aQ w B r.must a/\nP w B A c r.ph:=by
 obtain⟨a,A,c,rfl,b,d⟩:=h;exact⟨a,A,c,rfl,(wY b).1,b,d⟩
theorem DY {l m:List gq} {A A':Option Addr} {c c' L M:Nat} {w:World} (h:au iO 10 w L A l) (S:au iO 10 w M A' m) (n:L<=w.heap.size) (o:M<=w.heap.size) :
  CS 153 #[ba A l.length c,ba A' m.length c',bc true] w (bc (nJ qV l m)):=by
 have C:=qh h;have G:=qh S;have hl:=h.1;have Q:=S.1;unfold maxLen at hl Q;clear h S;by_cases hll:l.length=m.length
 case neg =>
  have hn:((l.length:Int) != (m.length:Int))=true:=bne_iff_ne.2 (by omega);have P:=qh (pM (E:=qV) hll);go_enter Tryz.func153,Tryz.ntmps153;go_wp2;go_ret;exact⟨aj P.o.symm,Below.refl _ _⟩
 have hn:((l.length:Int) != (m.length:Int))=false:=by simp[hll]
 have vF:=qh hll;have aL:l.length<=m.length:=by omega
 clear hll;go_enter Tryz.func153,Tryz.ntmps153;go_wp2_with fail;go_loopw [15,7] (λ i _ wz=>∃ k:Nat,k<=l.length/\i = a3 a8 k/\Hid (EG w wz)/\Hid (nJ qV l m=nJ qV (l.drop k) (m.drop k))) (λ i _ _=>l.length - (intOf i).toNat)
 case atStart=>exact⟨0,bi _,rfl,qh (Below.refl _ _),qh rfl⟩
 case round =>
  obtain⟨k,hk,rfl,j,s⟩:=hrel;by_cases hlt:k<l.length
  .have t:k<m.length:=by omega
   have p:=j.o.size;obtain⟨ad,ci,rfl,-,v,d⟩:=au.at_ (C.o.keep (λ _ _ h=>h.keep (j.o.mono n)) (j.o.mono n)) hlt;obtain⟨g,wZ,rfl,-,N,a⟩:=au.at_ (G.o.keep (λ _ _ h=>h.keep (j.o.mono o)) (j.o.mono o)) t;have s:=qh (s.o.trans (oL hlt t));obtain⟨x,hx⟩:=af (l[k]);obtain⟨y,hy⟩:=af (m[k]);rw[hx] at v s;rw[hy] at N s;obtain⟨es,W,O,rfl,H,F,z⟩:=Pj v;obtain⟨am,T,V,rfl,K,I,B⟩:=Pj N;have Y:=qh F;have WB:=qh I;cases F;rename_i Q1 d1 Q2 d2 _ _ _ _ _ _ _ _;cases I;rename_i Q3 d3 Q4 d4 _ _ _ _ _ _ _ _;have P:=qh (show ∀ f,EG wr f->f.cell? ⟨(ad.add (k*10)).block,(ad.add (k*10)).off+8,none⟩=some (bc x.soft)/\f.cell? ⟨(ad.add (k*10)).block,(ad.add (k*10)).off+9,none⟩=some (ba W x.ph.length O)/\f.cell? ⟨(g.add (k*10)).block,(g.add (k*10)).off+8,none⟩=some (bc y.soft)/\f.cell? ⟨(g.add (k*10)).block,(g.add (k*10)).off+9,none⟩=some (ba T y.ph.length V) from λ f u =>
    ⟨Below.cell_of u (d 8 _ (by rw[bk (by omega),H];rfl)),Below.cell_of u (d 9 _ (by rw[bk (by omega),H];rfl)),Below.cell_of u (a 8 _ (by rw[bk (by omega),K];rfl)),Below.cell_of u (a 9 _ (by rw[bk (by omega),K];rfl))⟩)
   have u0:wr.cell? (ad.add (k*10))=some (a3 a8 x.must.k):=d 0 _ rfl;have u1:wr.cell? (⟨(ad.add (k*10)).block,(ad.add (k*10)).off+1,none⟩)=some (a3 a8 x.must.op):=d 1 _ rfl;have u2:wr.cell? (⟨(ad.add (k*10)).block,(ad.add (k*10)).off+2,none⟩)=some (a9 x.must.nm):=d 2 _ rfl;have u3:wr.cell? (⟨(ad.add (k*10)).block,(ad.add (k*10)).off+3,none⟩)=some (a3 a8 x.must.v.k):=d 3 _ rfl;have u4:wr.cell? (⟨(ad.add (k*10)).block,(ad.add (k*10)).off+4,none⟩)=some (a3 a8 x.must.v.n):=d 4 _ rfl;have u5:wr.cell? (⟨(ad.add (k*10)).block,(ad.add (k*10)).off+5,none⟩)=some (a9 x.must.v.s):=d 5 _ rfl;have u6:wr.cell? (⟨(ad.add (k*10)).block,(ad.add (k*10)).off+6,none⟩)=some (ba Q1 x.must.v.l.length d1):=d 6 _ rfl;have u7:wr.cell? (⟨(ad.add (k*10)).block,(ad.add (k*10)).off+7,none⟩)=some (ba Q2 x.must.ar.length d2):=d 7 _ rfl;have v0:wr.cell? (g.add (k*10))=some (a3 a8 y.must.k):=a 0 _ rfl;have v1:wr.cell? (⟨(g.add (k*10)).block,(g.add (k*10)).off+1,none⟩)=some (a3 a8 y.must.op):=a 1 _ rfl;have X:wr.cell? (⟨(g.add (k*10)).block,(g.add (k*10)).off+2,none⟩)=some (a9 y.must.nm):=a 2 _ rfl;have v3:wr.cell? (⟨(g.add (k*10)).block,(g.add (k*10)).off+3,none⟩)=some (a3 a8 y.must.v.k):=a 3 _ rfl;have v4:wr.cell? (⟨(g.add (k*10)).block,(g.add (k*10)).off+4,none⟩)=some (a3 a8 y.must.v.n):=a 4 _ rfl;have v5:wr.cell? (⟨(g.add (k*10)).block,(g.add (k*10)).off+5,none⟩)=some (a9 y.must.v.s):=a 5 _ rfl;have v6:wr.cell? (⟨(g.add (k*10)).block,(g.add (k*10)).off+6,none⟩)=some (ba Q3 y.must.v.l.length d3):=a 6 _ rfl;have v7:wr.cell? (⟨(g.add (k*10)).block,(g.add (k*10)).off+7,none⟩)=some (ba Q4 y.must.ar.length d4):=a 7 _ rfl;obtain⟨s0,D⟩:=af ((x.soft == y.soft));obtain⟨b,u⟩:=af (bI x.must y.must);obtain⟨q,U⟩:=af (decide (x.ph=y.ph));have s:=qh (s.o.trans (show (qV x y && nJ qV (l.drop (k+1)) (m.drop (k+1)))=((s0 && b && q) && nJ qV (l.drop (k+1)) (m.drop (k+1))) by unfold qV;rw[<- dQ x.soft,D,u,U]));have HC:=qh (Later.call (show ∀ f,EG wr f->Calls Tryz.prog 196 #[.agg #[a3 a8 x.must.k,a3 a8 x.must.op,a9 x.must.nm,a3 a8 x.must.v.k,a3 a8 x.must.v.n,a9 x.must.v.s,ba Q1 x.must.v.l.length d1,ba Q2 x.must.ar.length d2],.agg #[a3 a8 y.must.k,a3 a8 y.must.op,a9 y.must.nm,a3 a8 y.must.v.k,a3 a8 y.must.v.n,a9 y.must.v.s,ba Q3 y.must.v.l.length d3,ba Q4 y.must.ar.length d4]] f λ J w'=>J = bd (bc b)/\EG f w' from λ f r=>u▸AO x.must y.must L M _ _ f (Y.o.keep (r.mono (be n p))) (WB.o.keep (r.mono (be o p))) (be n (be p r.size)) (be o (be p r.size))));have HP:=qh (Later.call (show ∀ f,EG wr f->Calls Tryz.prog 101 #[ba W x.ph.length O,ba T y.ph.length V] f λ J w'=>J = bd (bc q)/\EG f w' from λ f r=>U▸uV W T O V L M x.ph y.ph f z.2.2.1 B.2.2.1 (z.1.below (r.mono (be n p))) (B.1.below (r.mono (be o p))) (be n (be p r.size)) (be o (be p r.size))));have aX:=qh hlt;obtain⟨f1,f2,f3,f4⟩:=P.o _ (Below.refl _ _);have aa:(x.soft != y.soft)=!s0:=by rw[bne,D]
   clear hx hy d a v N u U z B C G Y WB;go_upto_region 6 with (fail);cases s0;rotate_left;cases b;rotate_left;cases q
   all_goals
    have aM:=Later.cell u0;have aw:=Later.cell u1;have ay:=Later.cell u2;have aR:=Later.cell u3;have ax:=Later.cell u4;have aZ:=Later.cell u5;have al:=Later.cell u6;have ak:=Later.cell u7;have ac:=Later.cell v0;have aq:=Later.cell v1;have an:=Later.cell X;have aE:=Later.cell v3;have aA:=Later.cell v4;have ap:=Later.cell v5;have ar:=Later.cell v6;have aD:=Later.cell v7;have ab:=Later.cell f1;have ae:=Later.cell f2;have ao:=Later.cell f3;have av:=Later.cell f4;clear u0 u1 u2 u3 u4 u5 u6 u7 v0 v1 X v3 v4 v5 v6 v7 f1 f2 f3 f4;refine aO (by kernel_rfl) (by kernel_rfl) ?_
    repeat (go_big_quiet_step (first | with_reducible exact HC.o _ | with_reducible exact HP.o _))
    refine wpQuiet_nil ?_;intro _ R;obtain⟨⟨W9,jl⟩,rfl⟩:=R;have Z:=qh jl;clear jl
    all_goals first
     | (go_wp2;go_ret;exact⟨aj (by rw[s.o];rfl),j.o.trans (Z.o.mono p)⟩)
     | (go_wp2
        go_roundw
        case rel=>exact⟨k+1,aX.o,by go_num,qh (j.o.trans (Z.o.mono p)),qh (s.o.trans (bj _))⟩
        case measure =>
         have:=aX.o;simp[intOf];omega)
  .have e:k=l.length:=by omega
   subst e;have HT:=qh (show nJ qV l m=true by rw[s.o,bf,vF.o,bf];rfl);go_wp2_with fail;go_ret;exact⟨aj HT.o.symm,j.o⟩
theorem GU {l f:List qg} {A A':Option Addr} {c c' L M:Nat} {w:World} (h:au nH 4 w L A l) (H:au nH 4 w M A' f) (j:L<=w.heap.size) (m:M<=w.heap.size) :
  CS 99 #[ba A l.length c,ba A' f.length c'] w (bc (bI l f)):=by
 rw[<- CU];have t:=qh h;have C:=qh H;have hl:=h.1;have F:=H.1;unfold maxLen at hl F;clear h H;by_cases hll:l.length=f.length
 case neg =>
  have hn:((l.length:Int) != (f.length:Int))=true:=bne_iff_ne.2 (by omega);have HF:=qh (pM (E:=bI) hll);go_enter Tryz.func99,Tryz.ntmps99;go_wp2;go_ret;exact⟨aj HF.o.symm,Below.refl _ _⟩
 have hn:((l.length:Int) != (f.length:Int))=false:=by simp[hll]
 have vF:=qh hll;have ao:l.length<=f.length:=by omega
 clear hll;go_enter Tryz.func99,Tryz.ntmps99;go_wp2_with fail;go_loopw [13,5] (λ i _ wz=>∃ k:Nat,k<=l.length/\i = a3 a8 k/\Hid (EG w wz)/\Hid (nJ bI l f=nJ bI (l.drop k) (f.drop k))) (λ i _ _=>l.length - (intOf i).toNat)
 case atStart=>exact⟨0,bi _,rfl,qh (Below.refl _ _),qh rfl⟩
 case round =>
  obtain⟨k,hk,rfl,d,n⟩:=hrel;by_cases hlt:k<l.length
  .have o:k<f.length:=by omega
   have s:=d.o.size;obtain⟨ad,ci,rfl,-,u,b⟩:=au.at_ (t.o.keep (λ _ _ h=>h.keep (d.o.mono j)) (d.o.mono j)) hlt;obtain⟨p,wZ,rfl,-,P,a⟩:=au.at_ (C.o.keep (λ _ _ h=>h.keep (d.o.mono m)) (d.o.mono m)) o;have n:=qh (n.o.trans (oL hlt o));obtain⟨x,W⟩:=af (l[k]);obtain⟨y,T⟩:=af (f[k]);rw[W] at u n;rw[T] at P n;obtain⟨R1,K,rfl,N⟩:=u;obtain⟨R2,I,rfl,r⟩:=P;have u0:wr.cell? (ad.add (k*4))=some (a3 a8 x.code):=b 0 _ rfl;have u1:wr.cell? (⟨(ad.add (k*4)).block,(ad.add (k*4)).off+1,none⟩)=some (ba R1 x.ph.length K):=b 1 _ rfl;have u2:wr.cell? (⟨(ad.add (k*4)).block,(ad.add (k*4)).off+2,none⟩)=some (bc x.al):=b 2 _ rfl;have u3:wr.cell? (⟨(ad.add (k*4)).block,(ad.add (k*4)).off+3,none⟩)=some (bc x.la):=b 3 _ rfl;have U:wr.cell? (p.add (k*4))=some (a3 a8 y.code):=a 0 _ rfl;have X:wr.cell? (⟨(p.add (k*4)).block,(p.add (k*4)).off+1,none⟩)=some (ba R2 y.ph.length I):=a 1 _ rfl;have Q:wr.cell? (⟨(p.add (k*4)).block,(p.add (k*4)).off+2,none⟩)=some (bc y.al):=a 2 _ rfl;have Y:wr.cell? (⟨(p.add (k*4)).block,(p.add (k*4)).off+3,none⟩)=some (bc y.la):=a 3 _ rfl;obtain⟨V,z⟩:=af ((x.code == y.code));have ak:(x.code != y.code)=!V:=by rw[bne,z]
   obtain⟨b1,B⟩:=af ((x.al == y.al));have al:(x.al != y.al)=!b1:=by rw[bne,B]
   obtain⟨b2,v⟩:=af ((x.la == y.la));have ar:(x.la != y.la)=!b2:=by rw[bne,v]
   obtain⟨q,J⟩:=af (decide (x.ph=y.ph));have n:=qh (n.o.trans (show (bI x y && nJ bI (l.drop (k+1)) (f.drop (k+1)))=((V && b1 && b2 && q) && nJ bI (l.drop (k+1)) (f.drop (k+1))) by rw[TP,<- dQ x.code,<- dQ x.al,<- dQ x.la,z,B,v,J]));have HC:=qh (Later.call (show ∀ g,EG wr g->Calls Tryz.prog 101 #[ba R1 x.ph.length K,ba R2 y.ph.length I] g λ O w'=>O = bd (bc q)/\EG g w' from λ g D=>J▸uV R1 R2 K I L M x.ph y.ph g N.2.2.1 r.2.2.1 (N.1.below (D.mono (be j s))) (r.1.below (D.mono (be m s))) (be j (be s D.size)) (be m (be s D.size))));have S:=qh hlt;clear W T b a J N r t C;go_upto_region 6 with (fail);cases V;rotate_left;cases b1;rotate_left;cases b2;rotate_left;cases q
   all_goals
    have ap:=Later.cell u0;have ae:=Later.cell u1;have am:=Later.cell u2;have aq:=Later.cell u3;have aa:=Later.cell U;have ac:=Later.cell X;have ab:=Later.cell Q;have an:=Later.cell Y;clear u0 u1 u2 u3 U X Q Y;refine aO (by kernel_rfl) (by kernel_rfl) ?_
    repeat (go_big_quiet_step (with_reducible exact HC.o _))
    refine wpQuiet_nil ?_;intro _ G;obtain⟨⟨W9,Z⟩,rfl⟩:=G;have R:=qh Z;clear Z
    all_goals first
     | (go_wp2;go_ret;exact⟨aj (by rw[n.o];rfl),d.o.trans (R.o.mono s)⟩)
     | (go_wp2
        go_roundw
        case rel=>exact⟨k+1,S.o,by go_num,qh (d.o.trans (R.o.mono s)),qh (n.o.trans (bj _))⟩
        case measure =>
         have:=S.o;simp[intOf];omega)
  .have e:k=l.length:=by omega
   subst e;have HT:=qh (show nJ bI l f=true by rw[n.o,bf,vF.o,bf];rfl);go_wp2_with fail;go_ret;exact⟨aj HT.o.symm,d.o⟩
theorem DZ {l f:List aW} {A A':Option Addr} {c c' T V:Nat} {w:World} (h:au dW 2 w T A l) (C:au dW 2 w V A' f) (g:T<=w.heap.size) (j:V<=w.heap.size) :
  CS 50 #[ba A l.length c,ba A' f.length c'] w (bc (bI l f)):=by
 rw[<- CU];have s:=qh h;have u:=qh C;have hl:=h.1;have z:=C.1;unfold maxLen at hl z;clear h C;by_cases hll:l.length=f.length
 case neg =>
  have Y:((l.length:Int) != (f.length:Int))=true:=bne_iff_ne.2 (by omega);have HF:=qh (pM (E:=bI) hll);go_enter Tryz.func50,Tryz.ntmps50;go_wp2;go_ret;exact⟨aj HF.o.symm,Below.refl _ _⟩
 have Y:((l.length:Int) != (f.length:Int))=false:=by simp[hll]
 have vF:=qh hll;have ac:l.length<=f.length:=by omega
 clear hll;go_enter Tryz.func50,Tryz.ntmps50;go_wp2_with fail;go_loopw [13,5] (λ i _ wz=>∃ k:Nat,k<=l.length/\i = a3 a8 k/\Hid (EG w wz)/\Hid (nJ bI l f=nJ bI (l.drop k) (f.drop k))) (λ i _ _=>l.length - (intOf i).toNat)
 case atStart=>exact⟨0,bi _,rfl,qh (Below.refl _ _),qh rfl⟩
 case round =>
  obtain⟨k,hk,rfl,b,n⟩:=hrel;by_cases hlt:k<l.length
  .have p:k<f.length:=by omega
   have o:=b.o.size;obtain⟨ad,ci,rfl,-,t,d⟩:=au.at_ (s.o.keep (λ _ _ h=>h.keep (b.o.mono g)) (b.o.mono g)) hlt;obtain⟨G,wZ,rfl,-,K,a⟩:=au.at_ (u.o.keep (λ _ _ h=>h.keep (b.o.mono j)) (b.o.mono j)) p;have n:=qh (n.o.trans (oL hlt p));obtain⟨x,R⟩:=af (l[k]);obtain⟨y,O⟩:=af (f[k]);rw[R] at t n;rw[O] at K n;obtain⟨R1,S,rfl,W,H⟩:=t;obtain⟨R2,N,rfl,v,I⟩:=K;have u0:wr.cell? (ad.add (k*2))=some (a9 x.nm):=d 0 _ rfl;have u1:wr.cell? (⟨(ad.add (k*2)).block,(ad.add (k*2)).off+1,none⟩)=some (ba R1 x.os.length S):=d 1 _ rfl;have P:wr.cell? (G.add (k*2))=some (a9 y.nm):=a 0 _ rfl;have U:wr.cell? (⟨(G.add (k*2)).block,(G.add (k*2)).off+1,none⟩)=some (ba R2 y.os.length N):=a 1 _ rfl;obtain⟨Q,F⟩:=af ((x.nm.toList == y.nm.toList));obtain⟨q,D⟩:=af (bI x.os y.os);have n:=qh (n.o.trans (show (bI x y && nJ bI (l.drop (k+1)) (f.drop (k+1)))=((Q && q) && nJ bI (l.drop (k+1)) (f.drop (k+1))) by rw[Pg,<- lu,F,D]));have HC:=qh (Later.call (show ∀ m,EG wr m->Calls Tryz.prog 99 #[ba R1 x.os.length S,ba R2 y.os.length N] m λ J w'=>J = bd (bc q)/\EG m w' from λ m r=>D▸GU (W.keep (λ _ _ h=>h.keep (r.mono (be g o))) (r.mono (be g o))) (v.keep (λ _ _ h=>h.keep (r.mono (be j o))) (r.mono (be j o))) (be g (be o r.size)) (be j (be o r.size))));have M:=qh hlt;clear R O d a D W v H I s u;go_upto_region 6 with (fail);cases Q;rotate_left;cases q
   all_goals
    have ae:=Later.cell u0;have ab:=Later.cell u1;have Z:=Later.cell P;have aa:=Later.cell U;clear u0 u1 P U;refine aO (by kernel_rfl) (by kernel_rfl) ?_
    repeat (go_big_quiet_step (with_reducible exact HC.o _))
    refine wpQuiet_nil ?_;intro _ B;obtain⟨⟨W9,X⟩,rfl⟩:=B;have L:=qh X;clear X
    all_goals first
     | (go_wp2;go_ret;exact⟨aj (by rw[n.o];rfl),b.o.trans (L.o.mono o)⟩)
     | (go_wp2
        go_roundw
        case rel=>exact⟨k+1,M.o,by go_num,qh (b.o.trans (L.o.mono o)),qh (n.o.trans (bj _))⟩
        case measure =>
         have:=M.o;simp[intOf];omega)
  .have e:k=l.length:=by omega
   subst e;have HT:=qh (show nJ bI l f=true by rw[n.o,bf,vF.o,bf];rfl);go_wp2_with fail;go_ret;exact⟨aj HT.o.symm,b.o⟩
end Go.Proofs.YtcnagconagpkcaaGreatDoor
namespace Go.Proofs.YtcnagconagpkcaaGreatDoor
open Go.RowKit
attribute [local go_sem ↓] Go.wp_at_zero Go.wp_at_succ
set_option maxHeartbeats 4000000
set_option maxRecDepth 100000
abbrev LK:=aW × Option Addr × Nat
instance:Inhabited LK:=⟨(⟨⟨#[]⟩,[]⟩,none,0)⟩
def l0 (p:LK):Value:=a9 p.1.nm
def l1 (p:LK):Value:=ba p.2.1 p.1.os.length p.2.2
def cfL (p q:LK):Int:=if Op.bytesLess p.1.nm.toList q.1.nm.toList=true then -1 else 1
theorem We (p q:LK) (w:World):Calls Tryz.prog 52 #[.agg (enc2 l0 l1 p).toArray,.agg (enc2 l0 l1 q).toArray] w λ e w'=>e = bd (a3 a8 (cfL p q))/\∃ n os',w'=Go.Sort.grow (w.drewN n) os':=by
 obtain⟨⟨s,os⟩,A,c⟩:=p;obtain⟨⟨t,os'⟩,B,d⟩:=q;show Calls Tryz.prog 52 #[.agg #[a9 s,ba A os.length c],.agg #[a9 t,ba B os'.length d]] w λ e w'=>e = bd (a3 a8 (if Op.bytesLess s.toList t.toList=true then -1 else 1))/\_;obtain⟨g,a⟩:=af (Op.bytesLess s.toList t.toList);rw[a];cases g
 all_goals
  go_enter Tryz.func52,Tryz.ntmps52;go_wp2;go_ret;exact⟨rfl,0,_,by rw[Go.Sort.alloc_eq_grow,Go.Sort.alloc_eq_grow,Go.Sort.grow_grow];rfl⟩
theorem GX (p q:LK):ltOf cfL p q=true ↔ p.1.nm.data.toList<q.1.nm.data.toList:=by
 unfold ltOf cfL;rw[Go.Proofs.bytesLess_eq,ByteArray.toList_eq,ByteArray.toList_eq];by_cases h:p.1.nm.data.toList<q.1.nm.data.toList <;> simp[h]
theorem amd:Go.Sort.SWO (ltOf cfL):=by
 have c:∀ p q:LK,ltOf cfL p q=false ↔ ¬ p.1.nm.data.toList<q.1.nm.data.toList:=λ p q=>by rw[<- GX];simp
 exact⟨λ p=>(c p p).2 (List.lt_irrefl _),λ p q r a b=>(GX p r).2 (bq ((GX p q).1 a) ((GX q r).1 b)),λ p q r a b=>(c p r).2 λ h=>by
  have a:=(c p q).1 a;have b:=(c q r).1 b;by_cases h3:r.1.nm.data.toList<q.1.nm.data.toList
  .exact a (bq h h3)
  .have e:q.1.nm.data.toList=r.1.nm.data.toList:=List.le_antisymm h3 b;rw[<- e] at h;exact a h⟩
theorem afa (w:World):(isAgg 92).run Tryz.prog w = .ok true w:=by kernel_rfl
theorem adt (w:World):(Go.sizeOf 92).run Tryz.prog w = .ok 2 w:=by kernel_rfl
theorem ame:∀ args w,(callFunc 52 args).run Tryz.prog w = .ok (.enter 52 args) w:=enters_of Tryz.func52 (by kernel_rfl) rfl
theorem flat_get {F:List LK}:∀ {j:Nat} (h:j<F.length),(F.flatMap (enc2 l0 l1))[j*2]?=some (l0 F[j])/\(F.flatMap (enc2 l0 l1))[j*2+1]?=some (l1 F[j])/\((F.flatMap (enc2 l0 l1)).drop (j*2)).take 2 = [l0 F[j],l1 F[j]]:=by
 induction F with
 | nil=>intro j h;cases h
 | cons a r ih =>
  intro j h;cases j with
  | zero=>exact⟨rfl,rfl,rfl⟩
  | succ j =>
   rw[show (j+1)*2=j*2+1+1 by omega];exact ih (j:=j) (by simpa using h)
theorem Jr (F:List LK):(F.flatMap (enc2 l0 l1)).length=F.length*2:=by
 induction F with
 | nil=>rfl
 | cons a r ih=>rw[br,List.length_append,ih,List.length_cons];show 2+_=_;omega
structure oN (w:World) (B:Nat) (A:Option Addr) (L:List aW) (g:Nat) (F:List LK):Prop where
 ad:L = []\/A=some ⟨g,0,none⟩
 lo:L = []\/B<=g
 row:L = []\/V4 92 l0 l1 w g F
 eq:F.map (·.1)=L
 at_:∀ p∈F,dW w B p.1 [l0 p,l1 p]
theorem oN.lies {w:World} {B:Nat} {A:Option Addr} {L:List aW} {g:Nat} {F:List LK} (h:oN w B A L g F) (r:B<=w.heap.size) (v:L.length<=1000):au dW 2 w w.heap.size A L:=by
 have b:F.length=L.length:=by rw[<- h.eq,bo]
 refine⟨by unfold maxLen;omega,F.flatMap (enc2 l0 l1),⟨by rw[Jr,b],λ d=>?_⟩,λ i s=>?_⟩
 .have a:L≠[]:=λ e=>by rw[e] at d;exact absurd d (by decide)
  obtain⟨p,f,o⟩:=h.row.resolve_left a;refine⟨_,h.ad.resolve_left a,f.lt,λ j u c=>?_⟩;have t:j<F.length*2:=by rw[<- Jr];exact (bs.1 c).1
  obtain⟨m,l,-⟩:=flat_get (F:=F) (j:=j / 2) (by omega);obtain⟨k,n⟩:=o (j / 2) (by omega);have e:(⟨g,0,none⟩:Addr).add j=⟨g,j,none⟩:=by unfold Addr.add;split <;> simp_all
  rw[e,f.cell];rcases Nat.mod_two_eq_zero_or_one j with q | q
  .rw[show j / 2*2=j by omega] at m k;rw[k,<- m,c]
  .rw[show j / 2*2+1=j by omega] at l n;rw[n,<- l,c]
 .rw[(flat_get (F:=F) (j:=i) (by omega)).2.2];have:=h.at_ _ (bn (show i<F.length by omega));have e:L[i]=(F[i]'(by omega)).1:=by have:=h.eq;subst this;simp
  rw[e];exact this.up r
def afb:Go.Shelf.Ren:=⟨fun | 41=>53 | n=>n,fun | 22=>23 | 23=>92 | 4=>4 | n=>n,fun | n=>n⟩
theorem TU:Go.Proofs.SlLaysE0.n41 Tryz.prog afb:={
 mixed:=by kernel_rfl
 f41:=⟨Tryz.f53.name,by decide,Tryz.func53.trans (congrArg some (by kernel_rfl))⟩
 t4:=Tryz.underlying4
 a4:=Tryz.isAgg4
 z4:=Tryz.sizeOf4
 v4:=Tryz.zeroValue4
 t22:=Tryz.underlying23
 a22:=Tryz.isAgg23
 z22:=Tryz.sizeOf23
 v22:=Tryz.zeroValue23 }
theorem afc:(Tryz.prog.info? 92).map (λ i=>(i.zero,i.size,i.bytes))=some (some (.agg #[.string ⟨#[]⟩,.slice none 0 0]),2,40):=by kernel_rfl
theorem Pm {w:World} {B:Nat}:∀ {L:List aW} {cs:List Value},cs.length=L.length*2->(∀ i (h:i<L.length),dW w B L[i] ((cs.drop (i*2)).take 2))->∃ F:List LK,F.map (·.1)=L/\cs=F.flatMap (enc2 l0 l1)/\∀ p∈F,dW w B p.1 [l0 p,l1 p]
 | [],cs,h,_=>⟨[],rfl,bp h,λ p h=>by cases h⟩
 | a :: r,cs,h,hp=>by
  obtain⟨u,v,t,rfl⟩:∃ u v t,cs=u :: v :: t:=by
   match cs,h with
   | u :: v :: t,_=>exact⟨u,v,t,rfl⟩
   | [u],h=>simp at h;omega
   | [],h=>simp at h
  have l:=hp 0 (by simp);obtain⟨F,j,k,e3⟩:=Pm (L:=r) (cs:=t) (by simp at h;omega) (λ i f=>by
   have:=hp (i+1) (by simpa using f);rw[show (i+1)*2=i*2+1+1 by omega] at this;simpa using this)
  have b:dW w B a [u,v]:=l;obtain⟨A,c,e,g⟩:=b;obtain⟨rfl,rfl⟩:u = a9 a.nm/\v = ba A a.os.length c:=by
   simp only[Hw,List.cons.injEq,and_true] at e;exact e
  refine⟨(a,A,c) :: F,by rw[List.map_cons,j],by rw[br,<- k];rfl,λ p d=>?_⟩;rcases bt.1 d with rfl | q
  .exact⟨A,c,rfl,g⟩
  .exact e3 p q
theorem DI {w:World} {B c:Nat} {A:Option Addr} {L:List aW} (h:au dW 2 w B A L) (I:B<=w.heap.size) (U:L.length<=1000) :
  Calls Tryz.prog 53 #[ba A L.length c] w λ e w'=>(∃ A' c' g F,e = bd (ba A' L.length c')/\L.length<=c'/\(L = []\/w.heap.size<=g)/\oN w' B A' L g F)/\EG w w':=by
 obtain⟨-,cs,⟨d,z⟩,s⟩:=h;obtain⟨F,k,E,e3⟩:=Pm d s;rcases bv L.length with n | n
 .have R:=bp n;subst R;have hF:F = []:=List.map_eq_nil_iff.1 k;subst hF;cases A with
  | none=>exact (AnyE.slices_Clone_nil TU 0 c w).mono λ _ _ ⟨q,Q⟩=>⟨⟨none,0,0,[],q,bg _,.inl rfl,.inl rfl,.inl rfl,.inl rfl,rfl,λ p h=>by cases h⟩,Q▸Below.refl _ _⟩
  | some a =>
   show Calls _ _ #[ba (some a) 0 c] _ _;have k:∀ w',(binOp .eql 23 (ba (some a) 0 c) (ba none 0 0)).run Tryz.prog w' = .ok (bc false) w':=λ _=>by kernel_rfl
   go_enter Tryz.func53,Tryz.ntmps53;go_wp2;go_ret;exact⟨⟨some ⟨w.heap.size,0,none⟩,0,w.heap.size,[],rfl,bg _,.inl trivial,.inl rfl,.inl rfl,.inl rfl,rfl,λ p h=>by cases h⟩,aB _ _⟩
 .have O:Reads w B 1 A (L.length*2) cs:=⟨by rw[d,Nat.mul_one],λ _=>z n⟩;obtain⟨K,x,l,y,m⟩:=info_parts afc;obtain⟨b,o,rfl,-,M⟩:=O.plain (by omega);refine (AnyE.slices_Clone TU K _ 2 40 x l y m rfl (by decide) adt b o L.length c cs w d (by unfold maxLen;omega) (by omega) M (λ u i=>by
   rw[E,List.mem_flatMap] at i;obtain⟨p,-,i⟩:=i;simp only[enc2,bt,List.not_mem_nil,or_false] at i;rcases i with rfl | rfl <;> rfl)).mono λ _ w' h=>?_
  obtain⟨v,q,C,-,D⟩:=h;obtain⟨A',c',rfl⟩:=jT C;have G:F.length=L.length:=by rw[<- k,bo]
  rcases C.2 with ⟨e,-⟩ | ⟨g,P,t,e,f,r,T,-,-,S⟩
  .injection e with _ e _;omega
  .injection e with e3' e4 e5;subst e3' e5;refine⟨⟨_,_,g,F,q,T,.inr f,.inr rfl,.inr (be I f),.inr ⟨t,r,λ j N=>?_⟩,k,λ p s=>(e3 p s).keep (D.mono I)⟩,D⟩;obtain⟨J,H,-⟩:=flat_get (F:=F) N;rw[<- E,<- S,List.getElem?_take_of_lt (by omega)] at J H;simpa using bh J H
theorem Js {w:World} {B c g:Nat} {A:Option Addr} {L:List aW} {F:List LK} (h:oN w B A L g F) (z:B<=w.heap.size) (D:L.length<=1000) :
  Calls Tryz.prog 54 #[ba A L.length c,.func (.func 52) #[] #[]] w λ e w'=>e = bd (.tuple #[])/\(w'=w/\L = []\/L≠[]/\w.grownBy w' (some g))/\∃ n F',n.Perm L/\n.Pairwise (λ a b=>¬ b.nm.data.toList<a.nm.data.toList)/\oN w' B A n g F':=by
 rcases bv L.length with j | j
 .have C:=bp j;subst C;exact (AnyF.slices_SortFunc_none Tryz.TL A c (.func (.func 52) #[] #[]) w).mono λ e w' ⟨m,t⟩=>⟨m,.inl ⟨t,rfl⟩,[],F,List.Perm.nil,List.Pairwise.nil,t▸h⟩
 .have d:L≠[]:=λ e=>by rw[e] at j;exact absurd j (by decide)
  have f:F.length=L.length:=by rw[<- h.eq,bo]
  obtain rfl:=h.ad.resolve_left d;have r:=Jq (k:=52) (cf:=cfL) Tryz.TL afa adt (λ _=>rfl) (λ _=>rfl) amd ame (λ x y w=>We x y w) (h.row.resolve_left d) (by omega) (c:=c);rw[f] at r;refine r.mono λ e w' ⟨m,i,F',u,s,v⟩=>⟨m,.inr ⟨d,i⟩,F'.map (·.1),F',?_,?_,.inr rfl,.inr (h.lo.resolve_left d),.inr u,rfl,λ p l=>?_⟩
  .have:=s.map (·.1)
   rwa [h.eq] at this
  .rw[List.pairwise_map];refine v.imp λ {a b} q o=>?_;have:ltOf cfL b a=true:=(GX b a).2 o;rw[q] at this;cases this
  .exact (h.at_ p (s.mem_iff.1 l)).keep ((Below.refl B w).grown i z (λ E e=>by injection e with e;subst e;exact h.lo.resolve_left d))
end Go.Proofs.YtcnagconagpkcaaGreatDoor
namespace Go.Proofs.YtcnagconagpkcaaGreatDoor
open Go.RowKit
attribute [local go_sem ↓] Go.wp_at_zero Go.wp_at_succ
attribute [local go_sem ↓] ld_item st_item ld_node st_node ld_ans st_ans ld_part st_part ld_rule st_rule ld_form st_form
set_option maxHeartbeats 4000000
set_option maxRecDepth 100000
theorem amf (l m:List gq):nJ qV l m=bI l m:=(dE (Lc (λ _ _ _=>V9)).symm).symm
theorem aat (x y:jS):bI x y=(bI x.k y.k && bI x.lo y.lo && bI x.hi y.hi && bI x.pl y.pl && bI x.ls y.ls && bI x.only y.only && bI x.sh y.sh && decide (x.rs=y.rs) && bI x.need y.need && nJ qV x.ch y.ch):=by
 rw[amf];cases x;cases y;refine dE ?_;simp only[jS.mk.injEq,bl,dD,decide_eq_true_eq,and_assoc]
theorem Iu {x y:jS} {t m s B1 B2 B3:Option Addr} {l q p r n o P R:Nat} {w:World} (h:nI w P x t l m q s p) (v:nI w R y B1 r B2 n B3 o) (d:P<=w.heap.size) (e:R<=w.heap.size) :
  CS 102 #[.agg (Bd x t l m q s p),.agg (Bd y B1 r B2 n B3 o),bc true] w (bc (bI x y)):=by
 obtain⟨W,hW,b,i,g,aa⟩:=Ro w 57 57 (Bd x t l m q s p) (Bd y B1 r B2 n B3 o);have u:=qh (show ∀ a,EG W a->a.cell? ⟨w.heap.size,0,none⟩=some (a3 a8 x.k)/\a.cell? ⟨w.heap.size,1,none⟩=some (a3 a8 x.lo)/\a.cell? ⟨w.heap.size,2,none⟩=some (a3 a8 x.hi)/\a.cell? ⟨w.heap.size,3,none⟩=some (a3 a8 x.pl)/\a.cell? ⟨w.heap.size,4,none⟩=some (a9 x.ls)/\a.cell? ⟨w.heap.size,5,none⟩=some (ba t x.only.length l)/\a.cell? ⟨w.heap.size,6,none⟩=some (bc x.sh)/\a.cell? ⟨w.heap.size,7,none⟩=some (ba m x.rs.length q)/\a.cell? ⟨w.heap.size,8,none⟩=some (bc x.need)/\a.cell? ⟨w.heap.size,9,none⟩=some (ba s x.ch.length p)/\a.cell? ⟨w.heap.size+1,0,none⟩=some (a3 a8 y.k)/\a.cell? ⟨w.heap.size+1,1,none⟩=some (a3 a8 y.lo)/\a.cell? ⟨w.heap.size+1,2,none⟩=some (a3 a8 y.hi)/\a.cell? ⟨w.heap.size+1,3,none⟩=some (a3 a8 y.pl)/\a.cell? ⟨w.heap.size+1,4,none⟩=some (a9 y.ls)/\a.cell? ⟨w.heap.size+1,5,none⟩=some (ba B1 y.only.length r)/\a.cell? ⟨w.heap.size+1,6,none⟩=some (bc y.sh)/\a.cell? ⟨w.heap.size+1,7,none⟩=some (ba B2 y.rs.length n)/\a.cell? ⟨w.heap.size+1,8,none⟩=some (bc y.need)/\a.cell? ⟨w.heap.size+1,9,none⟩=some (ba B3 y.ch.length o) from λ a c=>by
  have i:=i.below c i.lt;have g:=g.below c g.lt;exact⟨i.cell 0,i.cell 1,i.cell 2,i.cell 3,i.cell 4,i.cell 5,i.cell 6,i.cell 7,i.cell 8,i.cell 9,g.cell 0,g.cell 1,g.cell 2,g.cell 3,g.cell 4,g.cell 5,g.cell 6,g.cell 7,g.cell 8,g.cell 9⟩)
 have f:=qh (Below.refl W.heap.size W);have dH:=qh b;obtain⟨U,V,N,D,F,H,Q,A,M,z,K,b1,b2,b3,I,E,B,G,b8,O⟩:=u.o _ f.o;obtain⟨g0,e0⟩:=af ((x.k == y.k));obtain⟨g1,e1⟩:=af ((x.lo == y.lo));obtain⟨g2,e2⟩:=af ((x.hi == y.hi));obtain⟨g3,e3⟩:=af ((x.pl == y.pl));obtain⟨Z,e4⟩:=af ((x.ls.toList == y.ls.toList));obtain⟨C,L⟩:=af (bI x.only y.only);have K5:=qh (show ∀ a,EG W a->Calls Tryz.prog 152 #[ba t x.only.length l,ba B1 y.only.length r] a λ k w'=>k = bd (bc C)/\EG a w' from λ a c=>L▸oq (h.h1.keep (λ _ _ h=>h.keep ((b.trans (c.mono b.size)).mono d)) ((b.trans (c.mono b.size)).mono d)) (v.h1.keep (λ _ _ h=>h.keep ((b.trans (c.mono b.size)).mono e)) ((b.trans (c.mono b.size)).mono e)) (be d (b.trans (c.mono b.size)).size) (be e (b.trans (c.mono b.size)).size));obtain⟨Y,e6⟩:=af ((x.sh == y.sh));obtain⟨J,T⟩:=af (decide (x.rs=y.rs));have K7:=qh (show ∀ a,EG W a->Calls Tryz.prog 138 #[ba m x.rs.length q,ba B2 y.rs.length n] a λ k w'=>k = bd (bc J)/\EG a w' from λ a c=>T▸uP _ _ _ _ _ _ P R _ _ _ h.l4 v.l4 (h.h2.below ((b.trans (c.mono b.size)).mono d)) (v.h2.below ((b.trans (c.mono b.size)).mono e)) (be d (b.trans (c.mono b.size)).size) (be e (b.trans (c.mono b.size)).size));obtain⟨g8,e8⟩:=af ((x.need == y.need));obtain⟨g9,S⟩:=af (nJ qV x.ch y.ch);have K9:=qh (show ∀ a,EG W a->Calls Tryz.prog 153 #[ba s x.ch.length p,ba B3 y.ch.length o,bc true] a λ k w'=>k = bd (bc g9)/\EG a w' from λ a c=>S▸DY (h.h3.keep (λ _ _ h=>h.keep ((b.trans (c.mono b.size)).mono d)) ((b.trans (c.mono b.size)).mono d)) (v.h3.keep (λ _ _ h=>h.keep ((b.trans (c.mono b.size)).mono e)) ((b.trans (c.mono b.size)).mono e)) (be d (b.trans (c.mono b.size)).size) (be e (b.trans (c.mono b.size)).size));have HR:=qh (show bI x y=(g0 && g1 && g2 && g3 && Z && C && Y && J && g8 && g9) from by rw[aat,<- dQ x.k,<- dQ x.lo,<- dQ x.hi,<- dQ x.pl,<- lu,<- dQ x.sh,<- dQ x.need,e0,e1,e2,e3,e4,L,e6,T,e8,S]);clear L;clear T;clear S;go_enter Tryz.func102,Tryz.ntmps102;go_upto_region 1 with (fail);rw[<- hW];clear hW;cases g0;rotate_left;cases g1;rotate_left;cases g2;rotate_left;cases g3;rotate_left;cases Z;rotate_left;cases C;rotate_left;cases Y;rotate_left;cases J;rotate_left;cases g8;rotate_left
 all_goals
  go_wp2_with (first | (go_at_call 152;(with_reducible refine (K5.o _ f.o).mono ?_);rintro _ X ⟨rfl,j⟩;have f:=qh (f.o.trans (j.mono f.o.size));obtain⟨U,V,N,D,F,H,Q,A,M,z,K,b1,b2,b3,I,E,B,G,b8,O⟩:=u.o _ f.o;clear j) | (go_at_call 138;(with_reducible refine (K7.o _ f.o).mono ?_);rintro _ X ⟨rfl,j⟩;have f:=qh (f.o.trans (j.mono f.o.size));obtain⟨U,V,N,D,F,H,Q,A,M,z,K,b1,b2,b3,I,E,B,G,b8,O⟩:=u.o _ f.o;clear j) | (go_at_call 153;(with_reducible refine (K9.o _ f.o).mono ?_);rintro _ X ⟨rfl,j⟩;have f:=qh (f.o.trans (j.mono f.o.size));obtain⟨U,V,N,D,F,H,Q,A,M,z,K,b1,b2,b3,I,E,B,G,b8,O⟩:=u.o _ f.o;clear j));go_ret;exact⟨aj (by rw[HR.o];first | rfl | simp),dH.o.trans (f.o.mono dH.o.size)⟩
set_option maxHeartbeats 4000000
set_option maxRecDepth 100000
theorem aau (x y:ItemD):bI x y=(bI x.nm y.nm && PL x y && decide (x.ph=y.ph) && bI x.ans y.ans && bI x.items y.items):=by
 cases x;cases y;refine dE ?_;simp only[ItemD.mk.injEq,bl,dD,decide_eq_true_eq,PL,ItemD.k,ItemD.nm,ItemD.iff,ItemD.ph,ItemD.items,ItemD.sh,ItemD.cnt,ItemD.over,ItemD.ans,ItemD.cmp];constructor
 .rintro ⟨g,i,b,c,d,h,e,j,f,a⟩;exact⟨⟨⟨⟨i,⟨⟨⟨⟨⟨g,b⟩,h⟩,e⟩,j⟩,a⟩⟩,decide_eq_true c⟩,f⟩,d⟩
 .rintro ⟨⟨⟨⟨i,⟨⟨⟨⟨⟨g,b⟩,h⟩,e⟩,j⟩,a⟩⟩,c⟩,f⟩,d⟩;exact⟨g,i,b,of_decide_eq_true c,d,h,e,j,f,a⟩
def RIS (l:List ItemD):Prop:=∀ (l':List ItemD) (A A':Option Addr) (c c' C1 C2:Nat) (w:World),au bW 19 w C1 A l->au bW 19 w C2 A' l'->C1<=w.heap.size->C2<=w.heap.size->CS 51 #[ba A l.length c,ba A' l'.length c'] w (bc (bI l l'))
theorem TV (step:∀ l:List ItemD,(∀ x∈l,RIS x.items)->RIS l):∀ (n:Nat) (l:List ItemD),SizeOf.sizeOf l<n->RIS l
 | 0,_,h=>absurd h (Nat.not_lt_zero _)
 | n+1,l,h=>step l λ x a=>TV step n x.items (by
  have b:=List.sizeOf_lt_of_mem a;have c:SizeOf.sizeOf x.items<SizeOf.sizeOf x:=by cases x;simp[ItemD.items];omega
  omega)
theorem xh {w:World} {B:Nat} {e:ItemD} {cs:List Value} (h:bW w B e cs):cs.length=19/\∀ v∈cs,v.oneCell'=true:=by
 cases h;exact⟨rfl,by simp[itC,Nj,Value.oneCell']⟩
def Ll (w:World) (B:Nat) (a:jS) (an:List Value):Prop:=∃ A1 c1 A2 c2 A3 c3,an=Nj a A1 c1 A2 c2 A3 c3/\nI w B a A1 c1 A2 c2 A3 c3
theorem Ll.keep {w w':World} {B:Nat} {a:jS} {an:List Value} (h:Ll w B a an) (i:Below B w w'):Ll w' B a an:=by
 obtain⟨b,d,c,f,g,j,e,k⟩:=h;exact⟨b,d,c,f,g,j,e,k.keep i⟩
theorem zl {w:World} {B:Nat} {x:ItemD} {cs:List Value} (h:bW w B x cs):∃ a b d e an,cs[1]?=some (a9 x.nm)/\cs[3]?=some (ba a x.ph.length b)/\nP w B a b x.ph/\cs[4]?=some (ba d x.items.length e)/\au bW 19 w B d x.items/\an.length=10/\(∀ j u,an[j]?=some u->cs[8+j]?=some u)/\Ll w B x.ans an:=by
 cases h with
 | mk h1 h2 h4 h5 ha l1 l3 l4 l5 l6 l7 l8 hr hi =>
  refine⟨_,_,_,_,_,rfl,rfl,h2,rfl,⟨l8,_,hr,hi⟩,rfl,λ j u c=>?_,_,_,_,_,_,_,rfl,ha⟩;have f:j<10:=(bs.1 c).1;unfold itC;rw[List.getElem?_append_left (by simp[Nj];omega),bk (by simp)];simpa using c
theorem acO {x y:ItemD} {cs ds:List Value} {c d:Nat} {w:World} (h:bW w c x cs) (e:bW w d y ds) (b:c<=w.heap.size) (a:d<=w.heap.size) :
  CS 100 #[.agg cs.toArray,.agg ds.toArray] w (bc (PL x y)):=by
 cases h with
 | mk h1 h2 h4 h5 ha l1 l3 l4 l5 l6 l7 l8 hr hi =>
  cases e with
  | mk k1 k2 k4 k5 ka m1 m3 m4 m5 m6 m7 m8 kr ki =>
   exact Ir ⟨h1,h4,h5⟩ ⟨k1,k4,k5⟩ b a
theorem acP {x y:jS} {cs ds:List Value} {d c:Nat} {w:World} (h:Ll w d x cs) (e:Ll w c y ds) (b:d<=w.heap.size) (a:c<=w.heap.size) :
  CS 102 #[.agg cs.toArray,.agg ds.toArray,bc true] w (bc (bI x y)):=by
 obtain⟨s,n,m,t,k,r,rfl,g⟩:=h;obtain⟨u,o,l,q,j,p,rfl,f⟩:=e;exact Iu g f b a
theorem Lm {X:World} {g:Nat} {a:Array Value} {cs:List Value} (h:ag X g 59 a) (f:a.size=19) (d:cs.length=19) (j:∀ v∈cs,v.oneCell'=true) :
  ∃ W,(Hy 59 (bb (some ⟨g,0,none⟩)) (.agg cs.toArray)).run Tryz.prog X = .ok () W/\ag W g 59 cs.toArray/\(∀ k T (c:Array Value),k≠g->ag X k T c->ag W k T c)/\(∀ b,b<=g->Below b X W)/\W.heap.size=X.heap.size:=by
 obtain⟨a⟩:=a;have e:=aU.many cs 0 (aU.refl g X);have B:=ag.mid (post:=[]) cs a [] (by rw[bw,bx];exact h) (by rw[d];exact f);rw[bw,bx] at B;exact⟨_,TE h (by rw[d];exact Nat.le_of_eq f.symm) (by rw[d];kernel_rfl) j,B,λ k T c l q=>e.blk q l,λ b i=>e.below i,e.size⟩
theorem GY (l:List ItemD) (ih:∀ x∈l,RIS x.items):RIS l:=by
 intro n A A' c c' C1 C2 w h h' t v;rw[<- CU];have ae:=qh h;have av:=qh h';have HI:=qh ih;have hl:=h.1;have aA:=h'.1;unfold maxLen at hl aA;clear h h' ih;by_cases hll:l.length=n.length
 case neg =>
  have hn:((l.length:Int) != (n.length:Int))=true:=bne_iff_ne.2 (by omega);have K:=qh (pM (E:=bI) hll);go_enter Tryz.func51,Tryz.ntmps51;go_wp2;go_ret;exact⟨aj K.o.symm,Below.refl _ _⟩
 have hn:((l.length:Int) != (n.length:Int))=false:=by simp[hll]
 have vF:=qh hll;have aE:l.length<=n.length:=by omega
 clear hll;go_enter Tryz.func51,Tryz.ntmps51;go_wp2_with fail;go_loopw [15,5] (λ i _ wz=>∃ k:Nat,k<=l.length/\i = a3 a8 k/\Hid (EG w wz)/\Hid (nJ bI l n=nJ bI (l.drop k) (n.drop k))) (λ i _ _=>l.length - (intOf i).toNat)
 case atStart=>exact⟨0,bi _,rfl,qh (Below.refl _ _),qh rfl⟩
 case round =>
  obtain⟨k,hk,rfl,f,B⟩:=hrel;by_cases hlt:k<l.length
  .have H:k<n.length:=by omega
   have eY:=f.o.size;obtain⟨ad,ci,rfl,-,z,p⟩:=au.at_ (ae.o.keep (λ _ _ h=>h.keep (f.o.mono t)) (f.o.mono t)) hlt;obtain⟨qQ,wZ,rfl,-,fU,g⟩:=au.at_ (av.o.keep (λ _ _ h=>h.keep (f.o.mono v)) (f.o.mono v)) H;have B:=qh (B.o.trans (oL hlt H));obtain⟨x,T⟩:=af (l[k]);obtain⟨y,hy⟩:=af (n[k]);rw[T] at z B;rw[hy] at fU B;obtain⟨m,J⟩:=xh z;obtain⟨s,o⟩:=xh fU;have I:=qh (show ∀ cur,EG wr cur->(qG 59 (bb (some (ad.add (k*19))))).run Tryz.prog cur = .ok (.agg ci.toArray) cur/\(qG 59 (bb (some (qQ.add (k*19))))).run Tryz.prog cur = .ok (.agg wZ.toArray) cur/\EG wr cur from λ cur a=>⟨vC m (λ j u N=>Below.cell_of a (p j u N)),vC s (λ j u N=>Below.cell_of a (g j u N)),a⟩);have r:=Below.refl wr.heap.size wr;have tq:=qh z;have Jy:=qh fU;clear p g z fU;go_upto_region 6 with (fail);obtain⟨W2,r2,al,F2,b2,z2⟩:=Lm (X:=((wr.alloc (.cells #[a3 a8 0,a9 ⟨#[]⟩,ba none 0 0,ba none 0 0,ba none 0 0,bc false,ba none 0 0,a9 ⟨#[]⟩,a3 a8 0,a3 a8 0,a3 a8 0,a3 a8 0,a9 ⟨#[]⟩,ba none 0 0,bc false,ba none 0 0,bc false,ba none 0 0,ba none 0 0] 59 (0,0))).alloc (.cells #[a3 a8 0,a9 ⟨#[]⟩,ba none 0 0,ba none 0 0,ba none 0 0,bc false,ba none 0 0,a9 ⟨#[]⟩,a3 a8 0,a3 a8 0,a3 a8 0,a3 a8 0,a9 ⟨#[]⟩,ba none 0 0,bc false,ba none 0 0,bc false,ba none 0 0,ba none 0 0] 59 (0,0))).drew) ((ag.new wr 59 #[a3 a8 0,a9 ⟨#[]⟩,ba none 0 0,ba none 0 0,ba none 0 0,bc false,ba none 0 0,a9 ⟨#[]⟩,a3 a8 0,a3 a8 0,a3 a8 0,a3 a8 0,a9 ⟨#[]⟩,ba none 0 0,bc false,ba none 0 0,bc false,ba none 0 0,ba none 0 0]).alloc _) rfl m J;obtain⟨W3,r3,am,F3,b3,z3⟩:=Lm (X:=W2) (F2 (wr.heap.size+1) _ _ (by omega) (by have:=ag.new (wr.alloc (.cells #[a3 a8 0,a9 ⟨#[]⟩,ba none 0 0,ba none 0 0,ba none 0 0,bc false,ba none 0 0,a9 ⟨#[]⟩,a3 a8 0,a3 a8 0,a3 a8 0,a3 a8 0,a9 ⟨#[]⟩,ba none 0 0,bc false,ba none 0 0,bc false,ba none 0 0,ba none 0 0] 59 (0,0))) 59 #[a3 a8 0,a9 ⟨#[]⟩,ba none 0 0,ba none 0 0,ba none 0 0,bc false,ba none 0 0,a9 ⟨#[]⟩,a3 a8 0,a3 a8 0,a3 a8 0,a3 a8 0,a9 ⟨#[]⟩,ba none 0 0,bc false,ba none 0 0,bc false,ba none 0 0,ba none 0 0];rwa [World.size_alloc] at this)) rfl s o;obtain⟨W6,r6,ac,F6,D,z6⟩:=Lm (X:=((wr.alloc (.cells #[a3 a8 0,a9 ⟨#[]⟩,ba none 0 0,ba none 0 0,ba none 0 0,bc false,ba none 0 0,a9 ⟨#[]⟩,a3 a8 0,a3 a8 0,a3 a8 0,a3 a8 0,a9 ⟨#[]⟩,ba none 0 0,bc false,ba none 0 0,bc false,ba none 0 0,ba none 0 0] 59 (0,0))).alloc (.cells #[a3 a8 0,a9 ⟨#[]⟩,ba none 0 0,ba none 0 0,ba none 0 0,bc false,ba none 0 0,a9 ⟨#[]⟩,a3 a8 0,a3 a8 0,a3 a8 0,a3 a8 0,a9 ⟨#[]⟩,ba none 0 0,bc false,ba none 0 0,bc false,ba none 0 0,ba none 0 0] 59 (0,0))).drew) (by have:=ag.new (wr.alloc (.cells #[a3 a8 0,a9 ⟨#[]⟩,ba none 0 0,ba none 0 0,ba none 0 0,bc false,ba none 0 0,a9 ⟨#[]⟩,a3 a8 0,a3 a8 0,a3 a8 0,a3 a8 0,a9 ⟨#[]⟩,ba none 0 0,bc false,ba none 0 0,bc false,ba none 0 0,ba none 0 0] 59 (0,0))) 59 #[a3 a8 0,a9 ⟨#[]⟩,ba none 0 0,ba none 0 0,ba none 0 0,bc false,ba none 0 0,a9 ⟨#[]⟩,a3 a8 0,a3 a8 0,a3 a8 0,a3 a8 0,a9 ⟨#[]⟩,ba none 0 0,bc false,ba none 0 0,bc false,ba none 0 0,ba none 0 0];rwa [World.size_alloc] at this:ag _ (wr.heap.size+1) 59 #[a3 a8 0,a9 ⟨#[]⟩,ba none 0 0,ba none 0 0,ba none 0 0,bc false,ba none 0 0,a9 ⟨#[]⟩,a3 a8 0,a3 a8 0,a3 a8 0,a3 a8 0,a9 ⟨#[]⟩,ba none 0 0,bc false,ba none 0 0,bc false,ba none 0 0,ba none 0 0]) rfl m J;obtain⟨W7,r7,ao,F7,F,z7⟩:=Lm (X:=W6) (F6 wr.heap.size _ _ (by omega) ((ag.new wr 59 #[a3 a8 0,a9 ⟨#[]⟩,ba none 0 0,ba none 0 0,ba none 0 0,bc false,ba none 0 0,a9 ⟨#[]⟩,a3 a8 0,a3 a8 0,a3 a8 0,a3 a8 0,a9 ⟨#[]⟩,ba none 0 0,bc false,ba none 0 0,bc false,ba none 0 0,ba none 0 0]).alloc _)) rfl s o;have ar:=F3 _ _ _ (by omega) al;have ap:=F7 _ _ _ (by omega) ac;have T:=((r.alloc (bg _) (.cells #[a3 a8 0,a9 ⟨#[]⟩,ba none 0 0,ba none 0 0,ba none 0 0,bc false,ba none 0 0,a9 ⟨#[]⟩,a3 a8 0,a3 a8 0,a3 a8 0,a3 a8 0,a9 ⟨#[]⟩,ba none 0 0,bc false,ba none 0 0,bc false,ba none 0 0,ba none 0 0] 59 (0,0))).alloc (by simp) (.cells #[a3 a8 0,a9 ⟨#[]⟩,ba none 0 0,ba none 0 0,ba none 0 0,bc false,ba none 0 0,a9 ⟨#[]⟩,a3 a8 0,a3 a8 0,a3 a8 0,a3 a8 0,a9 ⟨#[]⟩,ba none 0 0,bc false,ba none 0 0,bc false,ba none 0 0,ba none 0 0] 59 (0,0))).drew;have P:=T.trans (b2 _ (bg _));have Z:=P.trans (b3 _ (bA _));have U:=T.trans (D _ (bA _));have Q:=U.trans (F _ (bg _));have L:=qh (bh (bh Z (bh ar am)) (bh Q (bh ap ao)));clear al ar am ac ap ao F2 F3 F6 F7 b2 b3 D F z2 z3 z6 z7 T;go_cut [6,7] from 18 (λ v6 v7 wd=>∃ C G:Nat,v6 = bb (some ⟨C,0,none⟩)/\v7 = bb (some ⟨G,0,none⟩)/\Hid (EG wr wd)/\Hid (ag wd C 59 ci.toArray)/\Hid (ag wd G 59 wZ.toArray))
   case first =>
    go_region_held3 (λ cur=>(qG 59 (bb (some (ad.add (k*19))))).run Tryz.prog cur = .ok (.agg ci.toArray) cur/\(qG 59 (bb (some (qQ.add (k*19))))).run Tryz.prog cur = .ok (.agg wZ.toArray) cur/\EG wr cur)
     (first | exact I.o _ r.drew | exact I.o _ (r.alloc (bg _) _).drew | exact I.o _ ((r.alloc (bg _) _).alloc (by simp) _).drew | exact I.o _ P | exact I.o _ Z | exact I.o _ U | exact I.o _ Q)
     (fail)
    all_goals
     (try go_wp2_with fail)
     go_meet
     first
      | exact⟨_,_,rfl,rfl,qh L.o.1.1,qh L.o.1.2.1,qh L.o.1.2.2⟩
      | exact⟨_,_,rfl,rfl,qh L.o.2.1,qh L.o.2.2.1,qh L.o.2.2.2⟩
   case rest =>
    obtain⟨C,G,rfl,rfl,HW,V,R⟩:=hcut;obtain⟨W,rfl⟩:=aH (wc);have ab:=f.o.trans (HW.o.mono eY);obtain⟨A2,k2,A3,k3,an,e1,e3,p3,e4,p4,aq,ea,pa⟩:=zl (tq.o.keep (HW.o.mono (be t eY)));obtain⟨P2,j2,P3,j3,ay,f1,f3,aa,f4,r4,ax,fa,ra⟩:=zl (Jy.o.keep (HW.o.mono (be v eY)));have K:=qh (show ∀ cur,EG W cur->cur.cell? ⟨C,1,none⟩=some (a9 x.nm)/\cur.cell? ⟨C,3,none⟩=some (ba A2 x.ph.length k2)/\cur.cell? ⟨C,4,none⟩=some (ba A3 x.items.length k3)/\cur.cell? ⟨G,1,none⟩=some (a9 y.nm)/\cur.cell? ⟨G,3,none⟩=some (ba P2 y.ph.length j2)/\cur.cell? ⟨G,4,none⟩=some (ba P3 y.items.length j3)/\(qG 59 (bb (some ⟨C,0,none⟩))).run Tryz.prog cur = .ok (.agg ci.toArray) cur/\(qG 59 (bb (some ⟨G,0,none⟩))).run Tryz.prog cur = .ok (.agg wZ.toArray) cur/\(qG 57 (bb (some ⟨C,8,none⟩))).run Tryz.prog cur = .ok (.agg an.toArray) cur/\(qG 57 (bb (some ⟨G,8,none⟩))).run Tryz.prog cur = .ok (.agg ay.toArray) cur from λ cur a=>by
     have D:=V.o.below a V.o.lt;have F:=R.o.below a R.o.lt;refine⟨?_,?_,?_,?_,?_,?_,vC m (gU D),vC s (gU F),uo aq λ j u N=>?_,uo ax λ j u N=>?_⟩
     .rw[D.cell 1];simpa using e1
     .rw[D.cell 3];simpa using e3
     .rw[D.cell 4];simpa using e4
     .rw[F.cell 1];simpa using f1
     .rw[F.cell 3];simpa using f3
     .rw[F.cell 4];simpa using f4
     .have:=gU D (8+j) u (ea j u N)
      rwa [<- kC] at this
     .have:=gU F (8+j) u (fa j u N)
      rwa [<- kC] at this)
    have ak:=HI.o x (T▸bn hlt);obtain⟨g0,aw⟩:=af ((x.nm.toList == y.nm.toList));have aD:(x.nm.toList != y.nm.toList)=!g0:=by rw[bne,aw]
    obtain⟨g1,Y⟩:=af (PL x y);obtain⟨g2,M⟩:=af (decide (x.ph=y.ph));obtain⟨g3,S⟩:=af (bI x.ans y.ans);obtain⟨g4,O⟩:=af (bI x.items y.items);have B:=qh (B.o.trans (show (bI x y && nJ bI (l.drop (k+1)) (n.drop (k+1)))=((g0 && g1 && g2 && g3 && g4) && nJ bI (l.drop (k+1)) (n.drop (k+1))) by rw[aau,<- lu,aw,Y,M,S,O]));have d:∀ cur,EG W cur->C1<=cur.heap.size/\C2<=cur.heap.size/\Below C1 W cur/\Below C2 W cur:=λ cur a=>by
     have:=ab.size;have:=a.size;exact⟨by omega,by omega,a.mono (by omega),a.mono (by omega)⟩
    have K1:=qh (show ∀ cur,EG W cur->Calls Tryz.prog 100 #[.agg ci.toArray,.agg wZ.toArray] cur λ en w'=>en = bd (bc g1)/\EG cur w' from λ cur a=>Y▸acO ((tq.o.keep (HW.o.mono (be t eY))).keep (d cur a).2.2.1) ((Jy.o.keep (HW.o.mono (be v eY))).keep (d cur a).2.2.2) (d cur a).1 (d cur a).2.1);have K2:=qh (show ∀ cur,EG W cur->Calls Tryz.prog 101 #[ba A2 x.ph.length k2,ba P2 y.ph.length j2] cur λ en w'=>en = bd (bc g2)/\EG cur w' from λ cur a=>M▸uV A2 P2 k2 j2 C1 C2 x.ph y.ph cur p3.2.2.1 aa.2.2.1 (p3.1.below (d cur a).2.2.1) (aa.1.below (d cur a).2.2.2) (d cur a).1 (d cur a).2.1);have K3:=qh (show ∀ cur,EG W cur->Calls Tryz.prog 102 #[.agg an.toArray,.agg ay.toArray,bc true] cur λ en w'=>en = bd (bc g3)/\EG cur w' from λ cur a=>S▸acP (pa.keep (d cur a).2.2.1) (ra.keep (d cur a).2.2.2) (d cur a).1 (d cur a).2.1);have K4:=qh (show ∀ cur,EG W cur->Calls Tryz.prog 51 #[ba A3 x.items.length k3,ba P3 y.items.length j3] cur λ en w'=>en = bd (bc g4)/\EG cur w' from λ cur a=>O▸ak _ _ _ _ _ C1 C2 cur (p4.keep (λ _ _ h=>h.keep (d cur a).2.2.1) (d cur a).2.2.1) (r4.keep (λ _ _ h=>h.keep (d cur a).2.2.2) (d cur a).2.2.2) (d cur a).1 (d cur a).2.1);have b:=qh (Below.refl W.heap.size W);have aX:=qh hlt;have dH:=qh ab;obtain⟨s0,s1,s2,s3,s4,s5,s6,s7,s8,s9⟩:=K.o _ b.o;clear T hy e1 e3 p3 e4 p4 ea pa f1 f3 aa f4 r4 fa ra ak Y M S O d ae av HI L I r2 r3 r6 r7 r P Z U Q J o m s aq ax V R tq Jy ab HW;cases g0;rotate_left;cases g1;rotate_left;cases g2;rotate_left;cases g3;rotate_left;cases g4;rotate_left
    all_goals
     go_wp2_with (first
      | (go_at_call 100;(with_reducible refine (K1.o _ b.o).mono ?_);rintro _ wq ⟨rfl,q⟩;have b:=qh (b.o.trans (q.mono b.o.size));obtain⟨s0,s1,s2,s3,s4,s5,s6,s7,s8,s9⟩:=K.o _ b.o;clear q)
      | (go_at_call 101;(with_reducible refine (K2.o _ b.o).mono ?_);rintro _ wq ⟨rfl,q⟩;have b:=qh (b.o.trans (q.mono b.o.size));obtain⟨s0,s1,s2,s3,s4,s5,s6,s7,s8,s9⟩:=K.o _ b.o;clear q)
      | (go_at_call 102;(with_reducible refine (K3.o _ b.o).mono ?_);rintro _ wq ⟨rfl,q⟩;have b:=qh (b.o.trans (q.mono b.o.size));obtain⟨s0,s1,s2,s3,s4,s5,s6,s7,s8,s9⟩:=K.o _ b.o;clear q)
      | (go_at_call 51;(with_reducible refine (K4.o _ b.o).mono ?_);rintro _ wq ⟨rfl,q⟩;have b:=qh (b.o.trans (q.mono b.o.size));obtain⟨s0,s1,s2,s3,s4,s5,s6,s7,s8,s9⟩:=K.o _ b.o;clear q))
     first
      | (go_ret;exact⟨aj (by rw[B.o];rfl),dH.o.trans (b.o.mono dH.o.size)⟩)
      | (go_roundw
         case rel=>exact⟨k+1,aX.o,by go_num,qh (dH.o.trans (b.o.mono dH.o.size)),qh (B.o.trans (bj _))⟩
         case measure =>
          have:=aX.o;simp[intOf];omega)
  .have e:k=l.length:=by omega
   subst e;have HT:=qh (show nJ bI l n=true by rw[B.o,bf,vF.o,bf];rfl);go_wp2_with fail;go_ret;exact⟨aj HT.o.symm,f.o⟩
theorem D5 (l:List ItemD):RIS l:=TV GY _ l (Nat.lt_succ_self _)
end Go.Proofs.YtcnagconagpkcaaGreatDoor
namespace Go.Proofs.YtcnagconagpkcaaGreatDoor
open Go.RowKit
attribute [local go_sem ↓] Go.wp_at_zero Go.wp_at_succ
set_option maxHeartbeats 4000000
set_option maxRecDepth 100000
theorem aaw (f g:aG):bI f g=(bI f.nm g.nm && bI f.ig g.ig && decide (f.aA=g.aA) && bI f.lists g.lists && bI f.items g.items):=by
 cases f;cases g;refine dE ?_;simp only[aG.mk.injEq,bl,dD,decide_eq_true_eq,and_assoc]
theorem xk {f g:aG} {x y:ku} {q o:Nat} {w:World} (h:gQ w q f x) (n:gQ w o g y) (e:q<=w.heap.size) (i:o<=w.heap.size) :
  CS 20 #[.agg (BO f x),.agg (BO g y)] w (bc (bI f g)):=by
 obtain⟨W,K,b,k,j,R⟩:=Ro w 26 26 (BO f x) (BO g y);have p:=qh (show ∀ a,EG W a->a.cell? ⟨w.heap.size,0,none⟩=some (a9 f.nm)/\a.cell? ⟨w.heap.size,1,none⟩=some (a3 a8 f.ig)/\a.cell? ⟨w.heap.size,2,none⟩=some (ba x.AL f.aA.length x.cl)/\a.cell? ⟨w.heap.size,3,none⟩=some (ba x.AS f.lists.length x.cs)/\a.cell? ⟨w.heap.size,4,none⟩=some (ba x.AI f.items.length x.ci)/\a.cell? ⟨w.heap.size+1,0,none⟩=some (a9 g.nm)/\a.cell? ⟨w.heap.size+1,1,none⟩=some (a3 a8 g.ig)/\a.cell? ⟨w.heap.size+1,2,none⟩=some (ba y.AL g.aA.length y.cl)/\a.cell? ⟨w.heap.size+1,3,none⟩=some (ba y.AS g.lists.length y.cs)/\a.cell? ⟨w.heap.size+1,4,none⟩=some (ba y.AI g.items.length y.ci) from λ a c=>by
  have k:=k.below c k.lt;have j:=j.below c j.lt;exact⟨k.cell 0,k.cell 1,k.cell 2,k.cell 3,k.cell 4,j.cell 0,j.cell 1,j.cell 2,j.cell 3,j.cell 4⟩)
 have d:=qh (Below.refl W.heap.size W);have H:=qh b;obtain⟨C,E,A,t,u,s,b1,b2,b3,B⟩:=p.o _ d.o;obtain⟨G,Q⟩:=af ((f.nm.toList == g.nm.toList));obtain⟨I,L⟩:=af ((f.ig == g.ig));obtain⟨D,z⟩:=af (decide (f.aA=g.aA));have N:=qh (show ∀ a,EG W a->Calls Tryz.prog 16 #[ba x.AL f.aA.length x.cl,ba y.AL g.aA.length y.cl] a λ m w'=>m = bd (bc D)/\EG a w' from λ a c=>z▸kQ _ _ _ _ q o _ _ _ h.la.2.2.1 n.la.2.2.1 (h.la.1.below ((b.trans (c.mono b.size)).mono e)) (n.la.1.below ((b.trans (c.mono b.size)).mono i)));obtain⟨r,e3⟩:=af (bI f.lists g.lists);have M:=qh (show ∀ a,EG W a->Calls Tryz.prog 50 #[ba x.AS f.lists.length x.cs,ba y.AS g.lists.length y.cs] a λ m w'=>m = bd (bc r)/\EG a w' from λ a c=>e3▸DZ (h.ls.keep (λ _ _ h=>h.keep ((b.trans (c.mono b.size)).mono e)) ((b.trans (c.mono b.size)).mono e)) (n.ls.keep (λ _ _ h=>h.keep ((b.trans (c.mono b.size)).mono i)) ((b.trans (c.mono b.size)).mono i)) (be e (b.trans (c.mono b.size)).size) (be i (b.trans (c.mono b.size)).size));obtain⟨J,v⟩:=af (bI f.items g.items);have O:=qh (show ∀ a,EG W a->Calls Tryz.prog 51 #[ba x.AI f.items.length x.ci,ba y.AI g.items.length y.ci] a λ m w'=>m = bd (bc J)/\EG a w' from λ a c=>v▸D5 _ _ _ _ _ _ q o _ (h.it.keep (λ _ _ h=>h.keep ((b.trans (c.mono b.size)).mono e)) ((b.trans (c.mono b.size)).mono e)) (n.it.keep (λ _ _ h=>h.keep ((b.trans (c.mono b.size)).mono i)) ((b.trans (c.mono b.size)).mono i)) (be e (b.trans (c.mono b.size)).size) (be i (b.trans (c.mono b.size)).size));have P:=qh (show bI f g=(G && I && D && r && J) from by rw[aaw,<- dQ f.ig,<- lu,Q,L,z,e3,v]);clear z;clear e3;clear v;go_enter Tryz.func20,Tryz.ntmps20;go_upto_region 1 with (fail);rw[<- K];clear K;cases G;rotate_left;cases I;rotate_left;cases D;rotate_left;cases r;rotate_left
 all_goals
  go_wp2_with (first | (go_at_call 16;(with_reducible refine (N.o _ d.o).mono ?_);rintro _ F ⟨rfl,l⟩;have d:=qh (d.o.trans (l.mono d.o.size));obtain⟨C,E,A,t,u,s,b1,b2,b3,B⟩:=p.o _ d.o;clear l) | (go_at_call 50;(with_reducible refine (M.o _ d.o).mono ?_);rintro _ F ⟨rfl,l⟩;have d:=qh (d.o.trans (l.mono d.o.size));obtain⟨C,E,A,t,u,s,b1,b2,b3,B⟩:=p.o _ d.o;clear l) | (go_at_call 51;(with_reducible refine (O.o _ d.o).mono ?_);rintro _ F ⟨rfl,l⟩;have d:=qh (d.o.trans (l.mono d.o.size));obtain⟨C,E,A,t,u,s,b1,b2,b3,B⟩:=p.o _ d.o;clear l));go_ret;exact⟨aj (by rw[P.o];first | rfl | simp),H.o.trans (d.o.mono H.o.size)⟩
end Go.Proofs.YtcnagconagpkcaaGreatDoor
