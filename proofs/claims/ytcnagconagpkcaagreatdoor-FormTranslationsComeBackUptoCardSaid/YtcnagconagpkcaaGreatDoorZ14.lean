/- Lemmas. -/
import Derived.Deep.RegionHeld
import Derived.Test.YtcnagconagpkcaaGreatDoorZ13
open Go.Value renaming int->cn, string->cp, slice->cq, bool->cr
open Go.IntKind renaming i64->co
open Go.Region renaming ready->ct, binds->cw, wanted->cz, noSelect->cE, free->cF, noSelect_spec->cG, free_spec->cH
open Nat renaming le_refl->cu, zero_le->cA, lt_or_ge->cD
open List renaming all_eq_true->cv, contains_iff_mem->cB, mem_singleton->cC
open Bool renaming and_eq_true->cx
set_option maxHeartbeats 8000000
set_option maxRecDepth 100000
namespace Go.Proofs.YtcnagconagpkcaaGreatDoor
open Tryz
open Tryz renaming prog->lM
section
open Go Go.RowKit
section
variable {P:Program} {ops:Array Oper} {Q:Exit->Act->World->Prop} {S:World->Prop} {W:List Nat}
def Oz (P:Program) (ops:Array Oper) (Q:Exit->Act->World->Prop) (S:World->Prop) (W:List Nat):Nat->Array Bool->Act->World->Prop
 | 0,listed,a,w=>ct .any ops listed = []/\Q .normal a w
 | fuel+1,listed,a,w =>
  (ct .any ops listed = []->Q .normal a w) /\
  ∀ i∈ct .any ops listed,wpOp P ops Q i (λ a' w'=>(W.contains i=false->S w')/\Oz P ops Q S W fuel (listed.setIfInBounds i true) a' w') a w
theorem TE:∀ (fuel:Nat) (b:Array Bool) (a:Act) (w:World),Oz P ops Q S W fuel b a w->wpAny P .any ops Q fuel b a w
 | 0,_,_,_,h=>h
 | fuel+1,_,_,_,h=>⟨h.1,λ i c=>wpOp_mono (λ a' w' d=>TE fuel _ a' w' d.2) (h.2 i c)⟩
def Zm (ops:Array Oper) (listed:Array Bool) (i:Nat) (V:List Nat):Bool:=
 V.all λ j=>!listed.getD j true && ((ops[j]?).map (·.after.any λ e=>cw .any e && (e.on == i || V.contains e.on))).getD false
def J7 (ops:Array Oper) (i:Nat):Nat->List Nat->List Nat
 | 0,l=>l
 | n+1,l=>J7 ops i n ((List.range ops.size).filter λ j=>((ops[j]?).map (·.after.any λ e=>cw .any e && (e.on == i || l.contains e.on))).getD false)
theorem IZ {S':World->Prop} {V:List Nat} {i:Nat} {C:Oper} {v:Value} (X:ops[i]?=some C) (x:∀ (j:Nat) (o:Oper) cs b,ops[j]?=some o->o.op≠.select cs b)
  (hQ:∀ c a w,Q (.panic c) (a.put C.dst v) w->Q (.panic c) a w) (G:∀ w,S' w->W.contains i=false->S w) :
  ∀ (g:Nat) (d:Array Bool) (a:Act) (w:World),Zm ops d i V=true->((∀ w,S' w)\/((∀ w,S w->S' w)/\∀ j,W.contains j=true->d.getD j true=true\/V.contains j=true)) ->
   (∀ j y,ops[j]?=some y->j≠i->d.getD j true=false->(∀ e∈y.after,cw .any e=true->e.on≠i)->C.apart ops y=true) ->
   i∈ct .any ops d->YieldsIf P ops S' C v a->S' w ->
   Oz P ops Q S W g (d.setIfInBounds i true) (a.put C.dst v) w->Oz P ops Q S W (g+1) d a w:=by
 intro g
 induction g with
 | zero =>
  intro d a w _ _ _ B R J H;refine⟨λ h=>(by rw[h] at B;cases B),λ j O=>?_⟩;by_cases hji:j=i
  .subst hji;exact R.wpOp X J ⟨G _ J,H⟩
  .have:=ready_mono O hji;rw[H.1] at this;cases this
 | succ g ih =>
  intro d a w hW I n B R J H;refine⟨λ h=>(by rw[h] at B;cases B),λ j O=>?_⟩;by_cases hji:j=i
  .subst hji;exact R.wpOp X J ⟨G _ J,H⟩
  .have N:=H.2 j (ready_mono O hji);obtain⟨m,y,q,u⟩:=mem_ready.1 O;have ae:d.getD i false=false:=by
    have h0:=(mem_ready.1 B).1;rcases cD i d.size with A | A
    .simpa [A] using h0
    .simp[Array.getElem?_eq_none A]
   have t:∀ e∈y.after,cw .any e=true->e.on≠i:=λ e M D ac=>by
    have N:=u e M D;rw[ac,ae] at N;cases N
   have s:V.contains j=false:=by
    cases hq:V.contains j
    .rfl
    .have r:=cv.1 hW j (cB.1 hq);simp only[cx,q,Option.map_some,Option.getD_some] at r;obtain⟨e,M,D⟩:=Array.any_eq_true'.1 r.2;simp only[cx,Bool.or_eq_true,beq_iff_eq] at D;rcases D.2 with h4 | h4
     .exact absurd h4 (t e M D.1)
     .have h5:=cv.1 hW e.on (cB.1 h4);have U:=u e M D.1;simp only[cx,Bool.not_eq_true'] at h5;rcases cD e.on d.size with A | A
      .have T:=h5.1;simp[A] at U T;rw[U] at T;cases T
      .simp[Array.getElem?_eq_none A] at U
   have ab:Zm ops (d.setIfInBounds j true) i V=true:=by
    refine cv.2 λ k E=>?_;have r:=cv.1 hW k E;have l:j≠k:=λ e=>by rw[e,cB.2 E] at s;cases s
    rw[getD_set_ne true l];exact r
   have ad:∀ w',(W.contains j=false->S w')->S' w':=λ w' h=>by
    rcases I with F | ⟨F,z⟩
    .exact F w'
    .refine F w' (h ?_);cases hq:W.contains j
     .rfl
     .rcases z j hq with f | f
      .rw[m] at f;cases f
      .rw[f] at s;cases s
   have aa:(∀ w,S' w)\/((∀ w,S w->S' w)/\∀ k,W.contains k=true->(d.setIfInBounds j true).getD k true=true\/V.contains k=true):=I.imp id λ ⟨F,z⟩=>⟨F,λ k E=>(z k E).imp (λ f=>by
    by_cases l:j=k
    .subst l;rw[m] at f;cases f
    .rw[getD_set_ne true l];exact f) id⟩
   have h2:=wpOp_putIf q (n j y q hji m t) (λ cs b=>x i C cs b X) (λ cs b=>x j y cs b q) hQ R N;have p:∀ k K,ops[k]?=some K->k≠i->(d.setIfInBounds j true).getD k true=false ->
     (∀ e∈K.after,cw .any e=true->e.on≠i)->C.apart ops K=true:=λ k K E Z L Y=>by
    refine n k K E Z ?_ Y;by_cases l:j=k
    .subst l;exact m
    .rw[getD_set_ne true l] at L;exact L
   refine wpOp_mono (λ a' w' r=>⟨r.2.1,ih (d.setIfInBounds j true) a' w' ab aa p (ready_mono B (Ne.symm hji)) r.1 (ad _ r.2.1) ?_⟩) h2;rw[Array.setIfInBounds_comm _ _ hji];exact r.2.2
def takeB (ops:Array Oper) (listed:Array Bool) (i:Nat) (W:List Nat):Bool:=
 cE ops && cF .any ops listed i && (ct .any ops listed).contains i && (Zm ops listed i (J7 ops i ops.size []) && (W.all λ j=>listed.getD j true || (J7 ops i ops.size []).contains j))
theorem tkE (i:Nat) {f:Oper} {v:Value} {d:Nat} {b:Array Bool} {a:Act} {w:World} (o:S w) (g:ops[i]?=some f) (e:takeB ops b i W=true)
  (m:∀ c a w,Q (.panic c) (a.put f.dst v) w->Q (.panic c) a w) (k:cz f (yielded ops a.tmps)=true) (l:∀ w,S w->(execOp a.eval f).run P w = .ok (.value v) w)
  (h:Oz P ops Q S W d (b.setIfInBounds i true) (a.put f.dst v) w):Oz P ops Q S W (d+1) b a w:=by
 simp only[takeB,cx] at e;exact IZ g (cG e.1.1.1) m (λ _ h _=>h) d b a w e.2.1 (.inr ⟨λ _ h=>h,λ j n=>by simpa using cv.1 e.2.2 j (cB.1 n)⟩) (cH g e.1.1.2) (by simpa using e.1.2) (.inl ⟨k,l⟩) o h
theorem tkW (i:Nat) {e:Oper} {v:Value} {d:Nat} {b:Array Bool} {a:Act} {w:World} (m:W.contains i=true) (g:ops[i]?=some e) (f:(cE ops && cF .any ops b i && (ct .any ops b).contains i)=true)
  (l:∀ c a w,Q (.panic c) (a.put e.dst v) w->Q (.panic c) a w) (j:cz e (yielded ops a.tmps)=true) (k:∀ w,(execOp a.eval e).run P w = .ok (.value v) w)
  (h:Oz P ops Q S W d (b.setIfInBounds i true) (a.put e.dst v) w):Oz P ops Q S W (d+1) b a w:=by
 simp only[cx] at f;exact IZ (S':=λ _=>True) (V:=[]) g (cG f.1.1) l (λ _ _ h=>by rw[m] at h;cases h) d b a w rfl (.inl λ _=>trivial) (cH g f.1.2) (by simpa using f.2) (.inl ⟨j,λ w _=>k w⟩) trivial h
theorem opE (i:Nat) {o:Oper} {c:Nat} {b:Array Bool} {a:Act} {w:World} (g:ct .any ops b = [i]/\W.contains i=false) (k:ops[i]?=some o)
  (h:∀ d:Act->World->Prop,Hid (∀ a w,S w->Oz P ops Q S W c (b.setIfInBounds i true) a w->d a w)->if cz o (yielded ops a.tmps)=true then Oper.wp P o a w d Q else d (a.put o.dst undef) w) :
  Oz P ops Q S W (c+1) b a w:=
 ⟨λ e=>(by rw[g.1] at e;cases e),λ j f=>by
  rw[g.1,cC] at f;subst f;exact wpOp_step k λ d m=>h d (qh λ a w n l=>m a w ⟨λ _=>n,l⟩)⟩
theorem opL (i:Nat) {o:Oper} {c:Nat} {b:Array Bool} {a:Act} {w:World} (f:ct .any ops b = [i]/\W.contains i=true) (l:ops[i]?=some o)
  (h:∀ d:Act->World->Prop,Hid (∀ a w,Oz P ops Q S W c (b.setIfInBounds i true) a w->d a w)->if cz o (yielded ops a.tmps)=true then Oper.wp P o a w d Q else d (a.put o.dst undef) w) :
  Oz P ops Q S W (c+1) b a w:=
 ⟨λ g=>(by rw[f.1] at g;cases g),λ j k=>by
  rw[f.1,cC] at k;subst k;exact wpOp_step l λ d n=>h d (qh λ a w m=>n a w ⟨λ e=>(by rw[f.2] at e;cases e),m⟩)⟩
theorem ac2 {b:Array Bool} {a:Act} {w:World} (d:ct .any ops b = []) (h:Q .normal a w):∀ c,Oz P ops Q S W c b a w
 | 0=>⟨d,h⟩
 | _+1=>⟨λ _=>h,by rw[d];simp⟩
theorem afC (S:World->Prop) (W:List Nat) {id:Nat} {a:Act} {w:World} (b:P.follows .mixedOrders=true) (c:S w.drew)
  (h:S w.drew->Oz P ops Q S W ops.size (Array.replicate ops.size false) a w.drew):(Code.region id ops true).wp P Q a w:=
 wp_region_any b (TE _ _ _ _ (h c))
end
end
section
open Go Go.RowKit Vtx
structure Boxed (w W:World) (T:TypeId) (cs:Array Value):Prop where
 eq:W=w.alloc (.cells cs T (0,0))
 below:DD w W
 blk:ah W w.heap.size T cs
 size:W.heap.size=w.heap.size+1
theorem boxed (w:World) (T:TypeId) (cs:Array Value):∃ W,Boxed w W T cs:=⟨_,rfl,(Below.refl _ _).alloc (cu _) _,ah.new w _ _,by simp⟩
abbrev Z8:Array Value:=#[cn co 0,cn co 0,cp ⟨#[]⟩,cn co 0,cn co 0,cp ⟨#[]⟩,cq none 0 0,cq none 0 0]
abbrev EC (y:Ex) (A:Option Addr) (c:Nat) (A':Option Addr) (c':Nat):Array Value:=(Ag y A c A' y.ar.length c')
abbrev OC (o:Int) (b n:Nat):Array Value:=#[cn co 4,cn co o,cp ⟨#[]⟩,cn co 0,cn co 0,cp ⟨#[]⟩,cq none 0 0,cq (some ⟨b,0,none⟩) n n]
theorem yw.Zn {w w':World} {g:Nat} {s:ByteArray} {f:List Ex} {l:List Tok} {e:Ending} (h:yw w g s (.ok f l) e w') :
  ∃ y i A c A' c',f = [y]/\l=wordsOf s.data.toList i/\e = .returned (.agg (EC y A c A' c'))/\Hid (bY w' (λ b=>w.heap.size<=b) w'.heap.size y (aA y A c A' c'))/\Hid (bI w' g s i)/\Kp g w w':=by
 obtain⟨x,i,cs,rfl,rfl,rfl,d,j,k⟩:=h;have a:=d;cases d;exact⟨x,i,_,_,_,_,rfl,rfl,rfl,qh a,qh j,k⟩
theorem zy {w w':World} {g k:Nat} {s:ByteArray} {R:uT} (h:R = .err k) (a:Kp g w w'):yw w g s R (.panicked [{ v:=.iface 342 (.agg #[cn co (k:Nat)]),recovered:=false }]) w':=by
 subst h;exact⟨rfl,a⟩
theorem okP {w w':World} {g i:Nat} {s:ByteArray} {x:Ex} {R:uT} {e:Ending} (h:R = .ok [x] (wordsOf s.data.toList i)) (a:yw w g s (.ok [x] (wordsOf s.data.toList i)) e w'):yw w g s R e w':=h▸a
theorem Kp.drw {g:Nat} {w w':World} (h:Kp g w w'):Kp g w w'.drew:=h.trans (Kp.of (Below.refl _ _).drew)
theorem Kp.bl {g:Nat} {w w' w'':World} (h:Kp g w w') (a:DD w' w''):Kp g w w'':=h.trans (Kp.of a)
theorem ah.s8 {w:World} {b k:Nat} {T:TypeId} {cs:Array Value} (h:ah w k T cs) (c:k≠b) (v0 v1 v2 v3 a v5 v6 v7:Value):ah (kR w b v0 v1 v2 v3 a v5 v6 v7) k T cs:=(eG w b v0 v1 v2 v3 a v5 v6 v7 k c).trans h
def S2 (b:Nat) (T:TypeId) (cs:Array Value) (b':Nat) (T':TypeId) (cs':Array Value) (w:World):Prop:=ah w b T cs/\ah w b' T' cs'
theorem S2.alloc {b b':Nat} {T T':TypeId} {cs cs':Array Value} {w:World} (h:S2 b T cs b' T' cs' w) (o:Obj):S2 b T cs b' T' cs' (w.alloc o):=⟨ah.alloc h.1 o,ah.alloc h.2 o⟩
section
variable {P:Program} {ops:Array Oper} {Q:Exit->Act->World->Prop} {b b':Nat} {T T':TypeId} {cs cs':Array Value} {W:List Nat}
theorem tk2 (i:Nat) {f:Oper} {v:Value} {e:Nat} {d:Array Bool} {a:Act} {w:World} (o:S2 b T cs b' T' cs' w) (l:ops[i]?=some f) (n:takeB ops d i W=true)
  (m:∀ c a w,Q (.panic c) (a.put f.dst v) w->Q (.panic c) a w) (g:cz f (yielded ops a.tmps)=true)
  (k:∀ w,(∀ j,w.cell? ⟨b,j,none⟩=cs[j]?)->(∀ j,w.cell? ⟨b',j,none⟩=cs'[j]?)->(execOp a.eval f).run P w = .ok (.value v) w)
  (h:Oz P ops Q (S2 b T cs b' T' cs') W e (d.setIfInBounds i true) (a.put f.dst v) w):Oz P ops Q (S2 b T cs b' T' cs') W (e+1) d a w:=
 tkE i o l n m g (λ w h=>k w h.1.cell h.2.cell) h
theorem Zo (b:Nat) (T:TypeId) (cs:Array Value) (b':Nat) (T':TypeId) (cs':Array Value) (W:List Nat) {id:Nat} {a:Act} {w:World} (e:P.follows .mixedOrders=true) (d:ah w b T cs) (c:ah w b' T' cs')
  (h:S2 b T cs b' T' cs' w.drew->Oz P ops Q (S2 b T cs b' T' cs') W ops.size (Array.replicate ops.size false) a w.drew):(Code.region id ops true).wp P Q a w:=
 afC _ W e ⟨d.below (Below.refl _ _).drew d.lt,c.below (Below.refl _ _).drew c.lt⟩ h
end
end
open Go.RowKit Vtx
attribute [local go_sem ↓] Go.wp_at_zero Go.wp_at_succ
theorem Zp (s:ByteArray) (L:List Tok) (hN:∀ L',L'.length<L.length->fE 291 .not s L') (hS:∀ L',L'.length<=L.length->fE 304 .sum s L'):fE 291 .not s L:=by
 intro g i w O hm hL;have q:=qh (gY s.data.toList.length .not [] L);obtain⟨R,hR⟩:=af (Pz s.data.toList.length .not [] L);rw[hR] at q ⊢;dsimp only[iC] at q;obtain⟨b,A⟩:=af (lG L ab6);have J:=O.b.lt;obtain⟨W,Q⟩:=boxed w 67 Z8;have u:Kp g w W:=Kp.of Q.below;have ny:=qh (O.below Q.below);have xK:=qh (hm.kp u);have jT:=qh Q.blk;have P:=Q.blk.lt;have a5:=Q.size;have HI:=qh (vP g s i W ny.o ab6 (by decide));rw[hL,A,show tb ab6=⟨#[110,111,116]⟩ from rfl] at HI;have HL:=qh hL;have fJ:=qh A;have a3:=qh hN;have DU:=qh hS;clear O hm hR A hL hN hS;go_enter func291,ntmps291;go_upto_region 1 with (fail);rw[<- Q.eq];clear Q;cases b
 .have q:=qh (q.o.trans (if_neg (by rw[fJ.o];decide)));obtain⟨r,hr⟩:=af (Pz s.data.toList.length .sum [] L);have H1:=qh (hr▸DU.o L (cu _) g i W ny.o xK.o HL.o);have a0:=qh hr;rw[hr] at q;clear hr;go_wp2_with (go_at_call 289;(with_reducible refine HI.o.mono ?_);rintro e w2 ⟨rfl,rfl⟩);refine H1.o.mono ?_;intro e w1 N;cases r with
  | err k =>
   obtain⟨rfl,n⟩:=N;go_wp2_with fail;exact⟨rfl,zy q.o (u.trans n)⟩
  | ok es l1 =>
   obtain⟨y,t,A1,c1,A2,c2,rfl,rfl,rfl,Ar,yO,n⟩:=N.Zn;have q:=qh (show R=if fU 4 11 (wordsOf s.data.toList t)=0 then .ok [y] (wordsOf s.data.toList t) else (Pz s.data.toList.length .sum [] (wordsOf s.data.toList t).tail).bind λ p U=>.ok [jF (fU 4 11 (wordsOf s.data.toList t)) ([y] ++ p)] U from q.o);have ar:=qh (vN a0.o);have ba:=n.size;obtain⟨W1,c⟩:=boxed w1 67 (EC y A1 c1 A2 c2);have aR:=qh (yO.o.below c.below);have DN:=qh ((u.trans n).bl c.below);have XA:=qh (xK.o.kp (n.bl c.below));have OA:=qh (jT.o.kp (n.bl c.below) (by omega));have LX:=qh c.blk;have aL:=qh ((Ar.o.keep (aK.of c.below)).up c.below.size);have a6:=c.blk.lt;have a7:g<w1.heap.size:=yO.o.b.lt;have aM:=qh c.eq;clear N n c;go_upto_region 5 with (fail);rw[<- aM.o];clear aM;go_wp2_with fail;refine (NH W1).mono ?_;rintro e wc ⟨ta,rfl,ab,Y⟩;have a2:=qh ab;have an:=qh Y;have ap:=Y.size;obtain⟨V,M⟩:=af (wordsOf s.data.toList t);have J5:=qh M;have aD:=qh (λ (I:World) (O:bI I g s t) (word:ByteArray) (hw:word.data.toList≠[])=>(show Calls lM 289 #[.pointer (some ⟨g,0,none⟩),cp word] I λ e w'=>e = .returned (cr (lG (wordsOf s.data.toList t) word.data.toList))/\I=w' from by
    have N:=vP g s t I O word.data.toList hw
    rwa [Y7] at N))
   rw[M] at q ar aD;clear ab Y M;go_wp2_with fail;go_loopw [18,5] (λ ix _ wz=>∃ k:Nat,k<=8/\ix = cn co k/\Hid (∀ d∈eU.take k,lG V d.1.data.toList=false)/\DD wc wz) (λ ix _ _=>8 - (intOf ix).toNat)
   case atStart=>exact⟨0,cA _,rfl,qh (λ d h=>by simp at h),Below.refl _ _⟩
   case round =>
    obtain⟨k,hk,rfl,wR,B⟩:=hrel;have mg:=B.size;have F:=qh (an.o.trans (B.mono ap));by_cases Zq:k<8
    .have j:k<eU.length:=Zq;obtain⟨ad,ci,S,-,ak,m⟩:=(dI a2.o B).at_ j;injection S with S;subst S;obtain⟨d,mY⟩:=af (eU[k]);have ay:d∈eU:=by rw[<- mY];exact List.getElem_mem j
     have jr:=qh (show eU.take (k+1)=eU.take k ++ [d] by rw[List.take_succ_eq_append_getElem j,mY]);have aq:=qh (show lG V d.1.data.toList=true->fU 4 11 V=d.2 from λ h=>by rw[<- mY];exact QW j wR.o (by rw[mY];exact h));rw[mY] at ak;have aV:=qh Zq;have T:d.1.data.toList≠[]/\d.2≠0:=by
      have h2:=cv.1 (show (eU.all λ d=>decide (d.1.data.toList≠[]/\d.2≠0))=true by decide) d ay
      rwa [decide_eq_true_iff] at h2
     obtain⟨X,C⟩:=d;obtain rfl:ci = [cp X,cn co C]:=ak;have qi:wr.cell? (ta.add (k*2))=some (cp X):=m 0 _ rfl;have qW:wr.cell? ⟨(ta.add (k*2)).block,(ta.add (k*2)).off+1,none⟩=some (cn co C):=m 1 _ rfl;have bb:(0:Int)<=(k:Nat):=by omega
     have uJ:(k:Int)<8:=by omega
     have a4:=qh T.2;obtain⟨Ws,Zr⟩:=boxed wr 359 #[cp X,cn co C];have TF:=qh Zr.blk;have ax:=B.trans (Zr.below.mono mg);have al:=qh (an.o.trans (ax.mono ap));have ac:=qh (aR.o.below al.o);have E:=qh (aD.o Ws ac.o X T.1);have am:=qh Zr.eq;have a9:=Zr.size;obtain⟨b,A⟩:=af (lG V X.data.toList);rw[show lG V (X,C).1.data.toList=b from A] at aq;rw[A] at E;clear m mY ay j T Zr;go_upto_region 8 with (fail);rw[<- am.o];clear am qi qW;have sc:=TF.o.cell;cases b
     .have Bo:=qh (show ∀ d∈eU.take (k+1),lG V d.1.data.toList=false by
       rw[jr.o];intro x hx;rcases List.mem_append.1 hx with h | h
       .exact wR.o x h
       .rw[cC] at h;rw[h];exact A)
      clear A;go_wp2_with (go_at_call 289;(with_reducible refine E.o.mono ?_);rintro e w3 ⟨rfl,rfl⟩);go_roundw
      case rel=>exact⟨k+1,aV.o,by go_num,Bo,ax⟩
      case measure =>
       have:=aV.o;simp[intOf];omega
     .have av:=qh (aq.o rfl);have l:=qE (s:=s) (i:=t) (by rw[J5.o];intro e;rw[e] at A;cases A);have HN:=qh (next_any g s t Ws ac.o);obtain⟨i3,aa⟩:=af (bD s t+(bH s t).length);rw[aa] at HN l;have tY:=qh l;clear aa l A;go_upto_region 10 with (first | (go_at_call 289;(with_reducible refine E.o.mono ?_);rintro e w3 ⟨rfl,rfl⟩) | (go_at_call 254;(with_reducible refine HN.o.mono ?_);rintro e w4 ⟨rfl,tZ,aE⟩;have Dw:=qh tZ;have pK:=qh aE;clear tZ aE));clear sc;obtain⟨r2,o⟩:=af (Pz s.data.toList.length .sum [] (wordsOf s.data.toList i3));have Zt:=qh ((Kp.of al.o).trans pK.o);have a8:W1.heap.size<=w4.heap.size:=Zt.o.size;have Z:=qh (o▸DU.o (wordsOf s.data.toList i3) (by have N:=tY.o.2;rw[J5.o] at N;have h2:=ar.o;omega) g i3 w4.drew (Dw.o.below (Below.refl _ _).drew) (XA.o.kp Zt.o.drw) rfl);have G:=qh (show R=r2.bind λ p U=>.ok [jF C ([y] ++ p)] U by rw[q.o,if_neg (by rw[av.o];exact a4.o),av.o,<- J5.o,<- tY.o.1,o]);clear o;refine Zo w1.heap.size 67 (EC y A1 c1 A2 c2) wr.heap.size 359 #[cp X,cn co C] [0,3,6,7] (by kernel_rfl) (LX.o.kp Zt.o (by omega)) (TF.o.kp pK.o (by omega)) (λ hS=>?_);refine tkW 0 rfl rfl (by kernel_rfl) (λ _ _ _ h=>h) rfl (λ _=>by go_simp;with_reducible rfl) ?_;refine tkW 3 rfl rfl (by kernel_rfl) (λ _ _ _ h=>h) rfl (λ _=>by go_simp;with_reducible rfl) ?_;refine tk2 1 hS rfl (by kernel_rfl) (λ _ _ _ h=>h) rfl (λ _ _ _=>by go_simp;with_reducible rfl) ?_;refine tk2 2 hS rfl (by kernel_rfl) (λ _ _ _ h=>h) rfl (λ _ _ _=>by go_simp;with_reducible rfl) ?_;refine opE 4 ⟨by kernel_rfl,rfl⟩ rfl (λ K z=>?_)
      go_simp
      go_wp2_with fail;refine Z.o.mono ?_;intro e w5 H;cases r2 with
      | err k2 =>
       obtain⟨rfl,a⟩:=H;go_wp2_with fail;exact⟨rfl,zy G.o (DN.o.trans (Zt.o.drw.trans a))⟩
      | ok p U =>
       obtain⟨y2,i4,A3,c3,A4,c4,rfl,rfl,rfl,LY,CY,a⟩:=H.Zn;have vS:=qh (Zt.o.drw.trans a);have a1:w4.heap.size<=w5.heap.size:=a.size;have aw:=qh (show S2 _ _ _ _ _ _ w5 from ⟨LX.o.kp vS.o (by omega),TF.o.kp (pK.o.drw.trans a) (by omega)⟩);clear H a hS;go_wp2_with fail;refine z.o _ _ aw.o ?_;clear z K;refine opE 5 ⟨by kernel_rfl,rfl⟩ rfl (λ K z=>?_)
       go_simp
       refine z.o _ _ (aw.o.alloc _) ?_;clear z K;refine opL 6 ⟨by kernel_rfl,rfl⟩ rfl (λ K z=>?_)
       go_simp
       go_wp2_with fail;refine (gG C _ 2 2 _).mono ?_;rintro e w6 ⟨rfl,f⟩;have B5:=(OA.o.kp vS.o (by omega)).alloc (.cells (aA y A1 c1 A2 c2 ++ aA y2 A3 c3 A4 c4).toArray 67 (0,0));have B6:=B5.below f B5.lt;have hc:=B6.cell;have hz:=B6.frozen;clear B5;go_wp2_with fail;refine z.o _ _ ?_;clear z K;refine opL 7 ⟨by kernel_rfl,rfl⟩ rfl (λ K z=>?_)
       go_simp
       refine z.o _ _ ?_;clear z K;refine ac2 (by kernel_rfl) ?_ _;go_wp2_with fail;refine bodyPost_ret (v:=.agg (OC C w5.heap.size 2)) (by simp[results,results291,go_sem,hc]) rfl ?_;exact okP G.o (uf (L:=W.heap.size) (Zj C (aL.o.kpq vS.o (λ k hk=>by omega)) (LY.o.imp (λ k hk _=>by simp at hk;omega)) f (λ k hk=>by omega)) P J ((CY.o.alloc _).below f) (((DN.o.trans vS.o).alloc _).bl f))
    .have D:∀ d∈eU,lG V d.1.data.toList=false:=by
      have h:=wR.o
      rwa [List.take_of_length_le (show eU.length<=k by show 8<=k;omega)] at h
     have G:=qh (show R = .ok [y] (wordsOf s.data.toList t) by rw[q.o,if_pos (VO D),J5.o]);have yc:=(LX.o.below F.o LX.o.lt).cell;have rc:=(OA.o.below F.o OA.o.lt).cell;have rz:=(OA.o.below F.o OA.o.lt).frozen;clear D;go_wp2_with fail;refine bodyPost_ret (v:=.agg (EC y A1 c1 A2 c2)) (by simp[results,results291,go_sem,rc]) rfl ?_;exact okP G.o (uf (L:=W.heap.size) ((aL.o.keep (aK.of F.o)).up F.o.size) P J (aR.o.below F.o) (DN.o.bl F.o))
 .have q:=qh (q.o.trans (if_pos fJ.o));have l:=qE (s:=s) (i:=i) (by rw[HL.o];intro e;have h:=fJ.o;rw[e] at h;cases h);have HN:=qh (next_any g s i W ny.o);obtain⟨i2,ag⟩:=af (bD s i+(bH s i).length);rw[ag] at HN l;have tY:=qh l;obtain⟨r2,o⟩:=af (Pz s.data.toList.length .not [] (wordsOf s.data.toList i2));have Z:=qh (λ I (O:bI I g s i2) hm=>o▸a3.o (wordsOf s.data.toList i2) (by have:=tY.o.2;rw[HL.o] at this;omega) g i2 I O hm rfl);have G:=qh (show R=r2.bind λ p U=>.ok [jF 1 p] U by rw[q.o,<- HL.o,<- tY.o.1,o]);clear o l ag;go_wp2_with (first | (go_at_call 289;(with_reducible refine HI.o.mono ?_);rintro e w3 ⟨rfl,rfl⟩) | (go_at_call 254;(with_reducible refine HN.o.mono ?_);rintro e w2 ⟨rfl,ae,ao⟩;have aZ:=qh ae;have ng:=qh ao;clear ae ao));refine (Z.o w2 aZ.o (xK.o.kp ng.o)).mono ?_;intro e w5 H;have bc:W.heap.size<=w2.heap.size:=ng.o.size;cases r2 with
  | err k2 =>
   obtain⟨rfl,a⟩:=H;go_wp2_with fail;exact⟨rfl,zy G.o ((u.trans ng.o).trans a)⟩
  | ok p U =>
   obtain⟨y,i4,A1,c1,A2,c2,rfl,rfl,rfl,LY,CY,a⟩:=H.Zn;have wW:=qh ((jT.o.kp (ng.o.trans a) (by omega)).alloc (.cells (EC y A1 c1 A2 c2) 67 (0,0)));have vS:=qh ((u.trans ng.o).trans a);have a1:=a.size;clear H a;go_wp2_with fail;refine (gG 1 _ 1 1 _).mono ?_;rintro e w6 ⟨rfl,f⟩;have rc:=(wW.o.below f wW.o.lt).cell;have rz:=(wW.o.below f wW.o.lt).frozen;go_wp2_with fail;refine bodyPost_ret (v:=.agg (OC 1 w5.heap.size 1)) (by simp[results,results291,go_sem,rc]) rfl ?_;exact okP G.o (uf (L:=W.heap.size) (QZ 1 (LY.o.imp (λ k hk _=>by omega)) f (λ k hk=>by omega)) P J ((CY.o.alloc _).below f) ((vS.o.alloc _).bl f))
theorem rM {w:World} {q:Nat->Prop} {x:Val} {A:Option Addr} {c:Nat} (g:Reads w w.heap.size 1 A x.l.length (bK co x.l)) (b:∀ ad,A=some ad->q ad.block) (f:x.l.length<=maxLen) (d:x.s.size<=maxLen):bY w q w.heap.size (jW x) (aA (jW x) A c none 0):=
 bY.mk (e:=jW x) (cs:=[]) (show 0<=maxLen from cA _) d f (show 0<=maxLen from cA _) ⟨g,λ _=>b⟩ ⟨Reads.none_,λ _ ad e=>by cases e⟩ (λ i a=>absurd a (by simp[jW,Ex.ar]))
theorem Rf (s:ByteArray) (L:List Tok) (hN:∀ L',L'.length<L.length->fE 317 .minus s L') (hS:fE 319 .eY s L):fE 317 .minus s L:=by
 intro g i w C Z hL;have zk:=qh C;have HM:=qh Z;have aa:=C.b.lt;have o:=qh (gY s.data.toList.length .minus [] L);obtain⟨R,hR⟩:=af (Pz s.data.toList.length .minus [] L);rw[hR] at o ⊢;dsimp only[iC] at o;obtain⟨b,hb⟩:=af (lG L [45]);have HI:=qh (λ (J:World) (C:bI J g s i)=>vP g s i J C [45] (by decide));rw[hL,hb,show tb [45]=⟨#[45]⟩ from rfl] at HI;have fJ:=qh hb;clear hR hb;cases b
 .have o:=qh (o.o.trans (if_neg (by rw[fJ.o];decide)));have HC:=qh (λ J (C:bI J g s i) Z=>hS g i J C Z hL);rw[<- o.o] at HC;clear C Z hN hS;go_enter func317,ntmps317;go_upto_region 1 with (fail);obtain⟨W,r,l,Q,V,E,-⟩:=mV g w;have G:=qh (show bI W g s i by rw[r];exact zk.o.alloc _);have xK:=qh (HM.o.kp l);have jT:=qh Q;rw[<- r];clear r Q;go_wp2_with (go_at_call 289;(with_reducible refine (HI.o _ G.o).mono ?_);rintro e Y ⟨rfl,rfl⟩);refine (HC.o W G.o xK.o).mono ?_;cases R with
  | err k =>
   rintro e w1 ⟨rfl,ac⟩;go_wp2_with fail;exact⟨rfl,rfl,l.trans ac⟩
  | ok es l1 =>
   rintro e w1 ⟨y,i1,bN,rfl,rfl,rfl,a0,bl,ac⟩;have Ar:=qh a0;obtain⟨bc,bf,D,bp,Q3,Q7,ba⟩:=a0;rename_i A1 c1 A2 c2 bE;clear Q3 Q7 ba bc bf D bp;have FU:(aA y A1 c1 A2 c2).toArray = (Ag y A1 c1 A2 y.ar.length c2):=rfl;rw[FU];clear FU;have B1:=jT.o.kp ac (by omega);obtain⟨fK,lD,gJ,lF,jC,rD,jD,rE,nJ,IV,nK,IW,nM,IX,nN,IY⟩:=ah.z8 B1;go_wp2_with fail;refine bodyPost_ret (v:=.agg (Ag y A1 c1 A2 y.ar.length c2)) (by simp[results,results317,go_sem,fK,gJ,jC,jD,nJ,nK,nM,nN]) rfl ?_;exact uf Ar.o E aa bl (l.trans ac)
 .have o:=qh (o.o.trans (if_pos fJ.o));have an:=qE (s:=s) (i:=i) (by rw[hL];intro e;have h:=fJ.o;rw[e] at h;cases h);have HN:=qh (λ W (C:bI W g s i)=>next_any g s i W C);obtain⟨t,ht⟩:∃ t,dE s.data.toList i=some t:=by
   cases ht:dE s.data.toList i with
   | none=>have h:=fJ.o;rw[<- hL,pI ht] at h;cases h
   | some t=>exact⟨t,rfl⟩
  obtain⟨ea,et,eh⟩:=nU ht;have ab:L=t :: wordsOf s.data.toList (t.at_+t.tx.length):=by rw[<- hL,gy,ht]
  have O:t.tx = [45]:=by have h:=fJ.o;rw[ab] at h;simp[lG] at h;exact h.2
  have aw:=iV ht;rw[aN] at aw;have a:=acM ht (by rw[O];rfl);rw[<- ab,aN] at a;obtain⟨P0,H⟩:=af (t.at_);obtain⟨i2,aq⟩:=af (bD s i+(bH s i).length);have bs:i2=P0+1:=by rw[<- aq,ea,et,O,H];rfl
  rw[aq] at HN an;rw[H] at a;have tY:=qh an;have ag:=qh hL;have bL:P0<s.size:=by rw[<- H];exact aw.2.1
  have bB:=C.s;have ay:=qh (show ah w g 346 #[cp s,cn co (P0:Nat),cp ⟨#[45]⟩,cr t.touch] from by
   have h:=C.b;rw[ea,et,eh,H,O] at h;exact h)
  have bR:IntKind.i64.wrap (((P0:Nat):Int)+1)=((P0+1:Nat):Int):=by rw[show ((P0:Nat):Int)+1=((P0+1:Nat):Int) by omega];exact IntWalk.i64_in _ (by omega)
  have a7:=qh (λ L' (h:L'.length<L.length)=>hN L' h);have jr:=qh (And.intro ab (And.intro O H));clear ea et eh aw aq an ht ab O H hN hS;by_cases D:P0+1<s.size
  .obtain⟨bd,aL⟩:=af (fQ (s[P0+1]'D));have a4:=qh (λ w'=>(show Calls lM 284 #[.int .u8 ((s[P0+1]'D).toNat:Nat)] w' λ e a6=>e = .returned (cr bd)/\w'=a6 from (jc (s[P0+1]'D) w').mono λ e a6 ⟨he,hw⟩=>⟨he.trans (congrArg (λ x=>Ending.returned (cr x)) aL),hw⟩));rw[decide_eq_true D,Bool.true_and,lV D,aL] at a;have bg:((P0+1:Nat):Int)<((s.size:Nat):Int):=by omega
   have bk:((P0:Nat):Int)+1<((s.size:Nat):Int):=by omega
   clear aL C Z;cases bd
   .have o:=qh (o.o.trans (if_neg (by rw[a];decide)));clear a;obtain⟨r2,F⟩:=af (Pz s.data.toList.length .minus [] (wordsOf s.data.toList i2));have aE:=qh (λ J (C:bI J g s i2) Z=>F▸a7.o (wordsOf s.data.toList i2) (by have:=tY.o.2;rw[hL] at this;omega) g i2 J C Z rfl);have U:=qh F;clear F;go_enter func317,ntmps317;go_upto_region 1 with (fail);obtain⟨W,r,l,Q,V,E,-⟩:=mV g w;have G:=qh (show bI W g s i by rw[r];exact zk.o.alloc _);have xK:=qh (HM.o.kp l);have jT:=qh Q;have S:=qh (show ah W g 346 #[cp s,cn co (P0:Nat),cp ⟨#[45]⟩,cr t.touch] by rw[r];exact ay.o.alloc _);rw[<- r];clear r Q;have c0:W.cell? ⟨g,0,none⟩=some (cp s):=G.o.b.cell 0;have c1:W.cell? ⟨g,1,none⟩=some (cn co (P0:Nat)):=S.o.cell 1;go_wp2_with (first | (go_at_call 289;(with_reducible refine (HI.o _ G.o).mono ?_);rintro e z ⟨rfl,rfl⟩) | (go_at_call 284;(with_reducible refine (a4.o _).mono ?_);rintro e z ⟨rfl,rfl⟩) | (go_at_call 254;(with_reducible refine (HN.o _ G.o).mono ?_);rintro e Y ⟨rfl,n,j⟩;have I:=qh n;have M:=qh j;have ng:=qh (l.trans j);have xw:=qh (jT.o.kp j (by omega));clear n j));refine (aE.o Y I.o (HM.o.kp ng.o)).mono ?_;have I7:W.heap.size<=Y.heap.size:=M.o.size;cases r2 with
    | err k2 =>
     rintro e w5 ⟨rfl,m⟩;have d:R = .err k2:=by rw[o.o,<- ag.o,<- tY.o.1];rw[U.o];rfl
     go_wp2_with fail;refine⟨rfl,?_⟩;rw[d];exact⟨rfl,ng.o.trans m⟩
    | ok es2 l2 =>
     rintro e w5 ⟨y,i4,bn,rfl,rfl,rfl,T,DY,m⟩;have LY:=qh T;obtain⟨UU,N,ap,ao,ax,ar,av⟩:=T;rename_i A1 c1 A2 c2 be;clear ax ar av UU N ap ao;have Zu:(aA y A1 c1 A2 c2).toArray = (Ag y A1 c1 A2 y.ar.length c2):=rfl;rw[Zu];clear Zu;have d:R = .ok [jF 20 [y]] (wordsOf s.data.toList i4):=by rw[o.o,<- ag.o,<- tY.o.1];rw[U.o];rfl
     have wW:=qh (xw.o.kp m (by omega));have N:=m.size;go_wp2_with fail;refine (gG 20 _ 1 1 _).mono ?_;rintro e w6 ⟨rfl,p⟩;have B6:=(wW.o.alloc (.cells (Ag y A1 c1 A2 y.ar.length c2) 67 (0,0))).below p (wW.o.alloc _).lt;obtain⟨fK,lD,gJ,lF,jC,rD,jD,rE,nJ,IV,nK,IW,nM,IX,nN,IY⟩:=ah.z8 B6;go_wp2_with fail;refine bodyPost_ret (v:=.agg #[cn co 4,cn co 20,cp ⟨#[]⟩,cn co 0,cn co 0,cp ⟨#[]⟩,cq none 0 0,cq (some ⟨w5.heap.size,0,none⟩) 1 1]) (by simp[results,results317,go_sem,fK,gJ,jC,jD,nJ,nK,nM,nN]) rfl ?_;rw[d];exact uf (L:=W.heap.size) (QZ 20 (LY.o.imp (λ k hk _=>by omega)) p (λ k hk=>by omega)) E aa ((DY.alloc _).below p) (((ng.o.trans m).alloc _).trans (Kp.of p))
   .have o:=qh (o.o.trans (if_pos a));have QQ:=qh a;clear a;obtain⟨u,tl,ae,bq⟩:∃ u tl,wordsOf s.data.toList (t.at_+t.tx.length)=u :: tl/\True:=by
     cases h:wordsOf s.data.toList (t.at_+t.tx.length) with
     | nil=>have h1:=QQ.o;rw[jr.o.1,h] at h1;cases h1
     | cons u tl=>exact⟨u,tl,rfl,trivial⟩
    have am:t.at_+t.tx.length=i2:=by rw[bs,jr.o.2.1,jr.o.2.2];rfl
    have X:=lS ae;rw[am] at X ae;obtain⟨a2,aD,-⟩:=nU X.1;have aV:=qh (show wordsOf s.data.toList (t.at_+t.tx.length)=u :: wordsOf s.data.toList (bD s i2+(bH s i2).length) by rw[am,ae,a2,aD,<- X.2]);have a8:=iV X.1;rw[aN] at a8;have bh:=qh aD;have bm:u.tx.length<=4000:=by omega
    have a5:((⟨#[45]⟩:ByteArray) ++ tb u.tx)=tb (45 :: u.tx):=by
     refine ByteArray.ext ?_;rw[ByteArray.data_append];simp[tb]
    have br:=qh a5;obtain⟨v,hv⟩:=af (tb u.tx);have aR:=qh hv;have bA:v.size<=4000:=by rw[<- hv,lU];exact bm
    clear bq am X a2 aD ae a8 a5;go_enter func317,ntmps317;go_upto_region 1 with (fail);obtain⟨W,r,l,Q,V,E,-⟩:=mV g w;have G:=qh (show bI W g s i by rw[r];exact zk.o.alloc _);have xK:=qh (HM.o.kp l);have jT:=qh Q;have S:=qh (show ah W g 346 #[cp s,cn co (P0:Nat),cp ⟨#[45]⟩,cr t.touch] by rw[r];exact ay.o.alloc _);rw[<- r];clear r Q;have c0:W.cell? ⟨g,0,none⟩=some (cp s):=G.o.b.cell 0;have c1:W.cell? ⟨g,1,none⟩=some (cn co (P0:Nat)):=S.o.cell 1;go_wp2_with (first | (go_at_call 289;(with_reducible refine (HI.o _ G.o).mono ?_);rintro e z ⟨rfl,rfl⟩) | (go_at_call 284;(with_reducible refine (a4.o _).mono ?_);rintro e z ⟨rfl,rfl⟩) | (go_at_call 254;(with_reducible refine (HN.o _ G.o).mono ?_);rintro e Y ⟨rfl,n,j⟩;have I:=qh n;have M:=qh j;have ng:=qh (l.trans j);have xw:=qh (jT.o.kp j (by omega));have d2:Y.cell? ⟨g,2,none⟩=some (cp v):=by { have h:=n.b.cell 2;rw[bh.o,aR.o] at h;exact h };clear n j));have al:((⟨#[45]⟩:ByteArray) ++ v)=tb (45 :: u.tx):=by rw[<- aR.o];exact br.o
    have a1:=qh (HM.o.kp ng.o).tab;rw[show (⟨#[45]⟩:ByteArray) ++ v=tb (45 :: u.tx) from al];refine (FN (tb (45 :: u.tx)) Y (by rw[lU];simp;omega) a1.o.1 a1.o.2).mono ?_;rw[jf];clear al;rintro e z ⟨aZ,K⟩;obtain⟨x,A,c,f,rfl,bb,hA,bj,bv,q1,q2⟩:=aZ.ex;have OB:x.l.length<=maxLen:=by unfold maxLen;omega
    have OD:x.s.size<=maxLen:=by unfold maxLen;omega
    have zn:=qh (And.intro bb hA);have HQ:=qh (And.intro q1 q2);have bw:=K.size;have Ia:=qh (I.o.below K);have OE:=qh (xw.o.below K xw.o.lt);have Bj:=qh (ng.o.trans (Kp.of K));have I7:W.heap.size<=Y.heap.size:=M.o.size;clear aZ bb hA q1 q2 bj bv K;by_cases hf:f=0
    .have HV:=qh (HQ.o.1 hf);have a9:=BH HV.o.1 HV.o.2;have bt:=qh a9;subst hf;clear a9;go_upto_region 7 with (fail);obtain⟨W3,B⟩:=aG (z.alloc (.cells (BF x A c) 65 (0,0)));have CZ:=qh (show bI W3 g s i2 by rw[B];exact Ia.o.alloc _);have FV:=qh (show ZB W3 w.heap.size by rw[B];exact OE.o.alloc _);have bi:=qh (show ah W3 z.heap.size 65 (BF x A c) by rw[B];exact ah.new z _ _);have yx:=qh (show Kp g w W3 by rw[B];exact Bj.o.alloc _);have OG:W3.heap.size=z.heap.size+1:=by rw[B];simp
     have aM:=qh (show Reads W3 W3.heap.size 1 A x.l.length (bK co x.l) by
      have h1:DD z W3:=by rw[B];exact (Below.refl _ _).alloc (cu _) _
      exact (zn.o.1.below h1).more h1.size)
     rw[<- B];clear B;have bP:g<z.heap.size:=Ia.o.b.lt;go_wp2_with (go_at_call 254;(with_reducible refine (next_any g s i2 _ CZ.o).mono ?_);rintro e w4 ⟨rfl,tZ,ak⟩;have Dw:=qh tZ;have pK:=qh ak;have TG:=bi.o.kp ak (by omega);have a3:=FV.o.kp ak (by omega);have xn:w4.cell? ⟨z.heap.size,0,none⟩=some (cn co x.k):=TG.cell 0;have xq:w4.cell? ⟨z.heap.size,1,none⟩=some (cn co x.n):=TG.cell 1;have G8:w4.cell? ⟨z.heap.size,2,none⟩=some (cp x.s):=TG.cell 2;have Tu:w4.cell? ⟨z.heap.size,3,none⟩=some (cq A x.l.length c):=TG.cell 3;clear tZ ak);refine (tV x.k x.n x.s A x.l.length c w4).mono ?_;rintro e w5 ⟨rfl,P⟩;have B5:=a3.below P a3.lt;have bx:=qh (rM (q:=λ b=>z.heap.size<=b+z.heap.size/\b≠g) (c:=c) aM.o (λ ad e=>⟨by omega,by have:=zn.o.2 ad e;omega⟩) OB OD);have LY:=qh (rM (q:=λ b=>W.heap.size<=b) (c:=c) aM.o (λ ad e=>by have:=zn.o.2 ad e;omega) OB OD);have bo:=qh (((LY.o.kpq pK.o (λ k hk=>by omega)).keep (aK.of P)).up P.size);obtain⟨fK,lD,gJ,lF,jC,rD,jD,rE,nJ,IV,nK,IW,nM,IX,nN,IY⟩:=ah.z8 B5;go_wp2_with fail;refine bodyPost_ret (v:=.agg #[cn co 1,cn co 0,cp ⟨#[]⟩,cn co x.k,cn co x.n,cp x.s,cq A x.l.length c,cq none 0 0]) (by simp[results,results317,go_sem,fK,gJ,jC,jD,nJ,nK,nM,nN]) rfl ?_;have d:R = .ok [jW x] (wordsOf s.data.toList (bD s i2+(bH s i2).length)):=by rw[o.o,jr.o.1];rw[aV.o];dsimp only;rw[bt.o]
     rw[d];exact uf (L:=W.heap.size) (x:=jW x) (A':=none) (c':=0) bo.o E aa (Dw.o.below P) ((yx.o.trans pK.o).trans (Kp.of P))
    .have bz:(f == 0)=false:=by simp[hf]
     have wR:=qh (yt (HQ.o.2 hf).2.2);have bO:=qh (HQ.o.2 hf).1;clear hf;have d:R = .err P0:=by rw[o.o,jr.o.1];rw[aV.o];dsimp only;rw[wR.o,jr.o.2.2]
     go_wp2_with fail;refine⟨rfl,?_⟩;rw[d];exact⟨rfl,Bj.o.alloc _⟩
  .have a:JD L=false:=by rw[a,decide_eq_false D];rfl
   have o:=qh (o.o.trans (if_neg (by rw[a];decide)));have bg:¬ ((P0+1:Nat):Int)<((s.size:Nat):Int):=by omega
   have bk:¬ ((P0:Nat):Int)+1<((s.size:Nat):Int):=by omega
   clear a C Z;obtain⟨r2,F⟩:=af (Pz s.data.toList.length .minus [] (wordsOf s.data.toList i2));have aE:=qh (λ J (C:bI J g s i2) Z=>F▸a7.o (wordsOf s.data.toList i2) (by have:=tY.o.2;rw[hL] at this;omega) g i2 J C Z rfl);have U:=qh F;clear F;go_enter func317,ntmps317;go_upto_region 1 with (fail);obtain⟨W,r,l,Q,V,E,-⟩:=mV g w;have G:=qh (show bI W g s i by rw[r];exact zk.o.alloc _);have xK:=qh (HM.o.kp l);have jT:=qh Q;have S:=qh (show ah W g 346 #[cp s,cn co (P0:Nat),cp ⟨#[45]⟩,cr t.touch] by rw[r];exact ay.o.alloc _);rw[<- r];clear r Q;have c0:W.cell? ⟨g,0,none⟩=some (cp s):=G.o.b.cell 0;have c1:W.cell? ⟨g,1,none⟩=some (cn co (P0:Nat)):=S.o.cell 1;go_wp2_with (first | (go_at_call 289;(with_reducible refine (HI.o _ G.o).mono ?_);rintro e z ⟨rfl,rfl⟩) | (go_at_call 254;(with_reducible refine (HN.o _ G.o).mono ?_);rintro e Y ⟨rfl,n,j⟩;have I:=qh n;have M:=qh j;have ng:=qh (l.trans j);have xw:=qh (jT.o.kp j (by omega));clear n j));refine (aE.o Y I.o (HM.o.kp ng.o)).mono ?_;have I7:W.heap.size<=Y.heap.size:=M.o.size;cases r2 with
   | err k2 =>
    rintro e w5 ⟨rfl,m⟩;have d:R = .err k2:=by rw[o.o,<- ag.o,<- tY.o.1];rw[U.o];rfl
    go_wp2_with fail;refine⟨rfl,?_⟩;rw[d];exact⟨rfl,ng.o.trans m⟩
   | ok es2 l2 =>
    rintro e w5 ⟨y,i4,bn,rfl,rfl,rfl,T,DY,m⟩;have LY:=qh T;obtain⟨UU,N,ap,ao,ax,ar,av⟩:=T;rename_i A1 c1 A2 c2 be;clear ax ar av UU N ap ao;have Zu:(aA y A1 c1 A2 c2).toArray = (Ag y A1 c1 A2 y.ar.length c2):=rfl;rw[Zu];clear Zu;have d:R = .ok [jF 20 [y]] (wordsOf s.data.toList i4):=by rw[o.o,<- ag.o,<- tY.o.1];rw[U.o];rfl
    have wW:=qh (xw.o.kp m (by omega));have N:=m.size;go_wp2_with fail;refine (gG 20 _ 1 1 _).mono ?_;rintro e w6 ⟨rfl,p⟩;have B6:=(wW.o.alloc (.cells (Ag y A1 c1 A2 y.ar.length c2) 67 (0,0))).below p (wW.o.alloc _).lt;obtain⟨fK,lD,gJ,lF,jC,rD,jD,rE,nJ,IV,nK,IW,nM,IX,nN,IY⟩:=ah.z8 B6;go_wp2_with fail;refine bodyPost_ret (v:=.agg #[cn co 4,cn co 20,cp ⟨#[]⟩,cn co 0,cn co 0,cp ⟨#[]⟩,cq none 0 0,cq (some ⟨w5.heap.size,0,none⟩) 1 1]) (by simp[results,results317,go_sem,fK,gJ,jC,jD,nJ,nK,nM,nN]) rfl ?_;rw[d];exact uf (L:=W.heap.size) (QZ 20 (LY.o.imp (λ k hk _=>by omega)) p (λ k hk=>by omega)) E aa ((DY.alloc _).below p) (((ng.o.trans m).alloc _).trans (Kp.of p))
def Rh (w:World) (g:Nat) (s:ByteArray) (r:uT) (e:Ending) (w':World):Prop:=match r with
 | .ok es l'=>∃ x i cs,es = [x]/\l'=wordsOf s.data.toList i/\e = .returned (.tuple #[.agg cs.toArray,cr true])/\bY w' (λ b=>w.heap.size<=b) w'.heap.size x cs/\bI w' g s i/\Kp g w w'
 | .err k=>e=IU k/\Kp g w w'
noncomputable def qF (n:Nat) (x:List UInt8) (r:List Tok):uT:=
 if gz x≠0 then (match nameAt r with
  | none=>.err (oZ n r)
  | some nm=>dG n [58] r.tail λ l1=>(Pz n .or [] l1).bind λ es l2=>dG n [41] l2 λ l3=>.ok [iy 5 (gz x) nm es] l3) else
 if kL x≠0 then (Pz n (.args (kL x)) [] r).bind λ es l1=>dG n [41] l1 λ l2=>.ok [jF (kL x) es] l2 else
 (match nameAt r with
  | none=>.err (oZ n r)
  | some nm=>dG n [41] r.tail λ l1=>.ok [iy 3 0 nm []] l1)
theorem Zv {w a:World} {g i:Nat} {s:ByteArray} {x:Ex} {A A':Option Addr} {c c':Nat} {L:Nat} (f:bY a (λ b=>L<b) a.heap.size x (aA x A c A' c')) (l:w.heap.size<L) (j:g<w.heap.size) (h:bI a g s i) (e:Kp g w a) :
  Rh w g s (.ok [x] (wordsOf s.data.toList i)) (.returned (.tuple #[.agg (Ag x A c A' x.ar.length c'),cr true])) (kR a w.heap.size (cn co x.k) (cn co x.op) (cp x.nm) (cn co x.v.k) (cn co x.v.n) (cp x.v.s) (cq A x.v.l.length c) (cq A' x.ar.length c')):=by
 have d:aK (λ b=>L<b) a (kR a w.heap.size (cn co x.k) (cn co x.op) (cp x.nm) (cn co x.v.k) (cn co x.v.n) (cp x.v.s) (cq A x.v.l.length c) (cq A' x.ar.length c')):=
  ⟨by rw[jl];exact cu _,λ k e m=>by rw[eG _ _ _ _ _ _ _ _ _ _ k (by omega)]⟩
 exact⟨x,i,aA x A c A' c',rfl,rfl,rfl,((f.keep d).up d.1).imp (λ k e _=>by omega),h.kp (eG _ _ _ _ _ _ _ _ _ _ g (by omega)),tX e (cu _) _ _ _ _ _ _ _ _⟩
theorem wX {w:World} {p:Nat->Prop} {B:Nat} {a:List Ex} {css:List (List Value)} {A:Option Addr} {c:Nat} (k o:Int) (nm:List UInt8) (f:nm.length<=maxLen) (h:iO w p a css) (s:∀ k,B<=k->p k) (j:w.ownsRow B 67 8 (cq A a.length c) a.length css.flatten) (r:a.length<=maxLen) :
  bY w p w.heap.size (iy k o nm a) (aA (iy k o nm a) none 0 A c):=by
 have n:∀ ad,A=some ad->p ad.block:=λ ad e=>by
  subst e;rcases j.2 with ⟨t,-⟩ | ⟨u,m,l,d,q,-⟩
  .cases t
  .injection d with d _ _;injection d with d;subst d;exact s _ q
 refine bY.mk (e:=iy k o nm a) (A:=none) (c:=0) (A':=A) (c':=c) (cs:=css.flatten) (show (⟨nm.toArray⟩:ByteArray).size<=maxLen by simpa [ByteArray.size] using f) (show 0<=maxLen from cA _) (show 0<=maxLen from cA _) r ⟨Reads.none_,λ _ ad e=>by cases e⟩ ⟨Reads.fB j,λ _=>n⟩ (λ i g=>?_);have b:i<css.length:=by rw[<- h.len];exact g
 rw[TA css h.cells i b];exact h.ex i g b
theorem OH {s:ByteArray} {i:Nat} {x:List UInt8} (h:nameAt (wordsOf s.data.toList i)=some x) (b:s.size<=4000):x.length<=4000:=by
 rw[gy] at h;cases ht:dE s.data.toList i with
 | none=>rw[ht] at h;cases h
 | some t =>
  rw[ht] at h;have a:(if !t.touch && nameB t.tx then some t.tx else none)=some x:=h;split at a
  .injection a with a;subst a;have:=iV ht;rw[aN] at this;omega
  .cases a
theorem FW {g:Nat} {w w':World} (h:Kp g w w') {b:Nat} (d:w.heap.size<=b) (i:Nat) (v:Value):Kp g w (w'.setCell ⟨b,i,none⟩ v):=
 ⟨h.os,h.tape,h.output,by simp[World.setCell];exact h.size,λ k c a=>(Below.heap_setCell w' ⟨b,i,none⟩ v k (λ e=>by simp at e;omega)).trans (h.block k c a)⟩
theorem row_zero:gz AZ=0/\kL AZ=0:=by decide
theorem VU (g:Nat) (s:ByteArray) (i:Nat) (w:World) (hp:bI w g s i) (hm:TM w g) (t u:Tok) (r:List Tok) (hL:wordsOf s.data.toList i=t :: u :: r) (hu:u.tx = [40]) (ho:gz t.tx≠0) (hP:∀ L',L'.length<=r.length->fE 255 .or s L') :
  Calls lM 324 #[.pointer (some ⟨g,0,none⟩),cp (tb t.tx)] w λ e w'=>Rh w g s (qF s.data.toList.length t.tx r) e w':=by
 have zk:=qh hp;have HM:=qh hm;have a8:=hp.b.lt;have bf:=hp.s;have M:=lS hL;have E:=lS M.2.symm;obtain⟨i1,aa⟩:=af (t.at_+t.tx.length);obtain⟨ea,et,eh⟩:=nU M.1;have bv:=qh (show bD s i+(bH s i).length=i1 by rw[ea,et,aa]);rw[aa] at M E;have D:=FK E.1 hu (by decide);have a9:=qh (show lG (wordsOf s.data.toList i1) [40]=true by rw[<- M.2];simp[lG,D,hu]);obtain⟨i2,Z⟩:=af (bD s i1+(bH s i1).length);have bz:=qh Z;have an:=qh (show wordsOf s.data.toList i2=r by
  obtain⟨bg,br,-⟩:=nU E.1;rw[<- Z,bg,br];exact E.2.symm)
 obtain⟨x,hx⟩:=af (t.tx);obtain⟨R,hR⟩:=af (qF s.data.toList.length t.tx r);rw[hR];rw[hx] at hR ⊢;obtain⟨v,hv⟩:=af (tb x);have HV:=qh hv;have OI:=qh (λ w'=>hv▸ug x w');have OJ:=qh (λ w'=>hv▸zx x w');have H:=qh hR;have Hq:=qh hP;rw[hv];rw[hx] at ho;clear hR aa Z ea et eh M E D hL hu hp hm hP;obtain⟨ov,p⟩:=af (gz x);obtain⟨op,aE⟩:=af (kL x);have aw:=Zg x;rw[p] at ho aw;have Zw:(v.toList == (⟨#[114,111,119]⟩:ByteArray).toList)=false:=dV (λ e=>by
  have e2:x=AZ:=by rw[<- jf x,hv,e];rfl
  subst e2;exact ho (p▸row_zero.1))
 have bs:(v.toList == [114,111,119])=false:=by simpa using Zw
 clear Zw;have bo:(ov == 0)=false:=by simp[ho]
 have b0:(0:Int)<ov:=by omega
 have H:=qh (show R=(match nameAt r with
  | none=>.err (oZ s.data.toList.length r)
  | some nm=>dG s.data.toList.length [58] r.tail λ l1=>(Pz s.data.toList.length .or [] l1).bind λ es l2=>dG s.data.toList.length [41] l2 λ l3=>.ok [iy 5 ov nm es] l3) by rw[<- H.o];unfold qF;rw[p,if_pos ho])
 have Zx:=qh p;have Zy:=qh aE;clear ho aw hv hx p aE;go_enter func324,ntmps324;go_upto_region 1 with (fail);obtain⟨W,hW,ak,BR,bS,b7,-⟩:=mV g w;have ny:=qh (show bI W g s i by rw[hW];exact zk.o.alloc _);have xK:=qh (HM.o.kp ak);have jT:=qh BR;rw[<- hW];clear hW BR;go_wp2_with fail;refine (OI.o W).mono ?_;rintro e wa ⟨rfl,ad⟩;rw[Zx.o];go_wp2_with fail;refine (OJ.o wa).mono ?_;rintro e wb ⟨rfl,ax⟩;rw[Zy.o];have F:DD W wb:=ad.trans (ax.mono ad.size);have bt:=qh (ny.o.below F);have bB:=qh (ak.trans (Kp.of F));have Zz:=qh (jT.o.below F jT.o.lt);have b1:=F.size;clear ad ax F;have J6:=qh (next_any g s i wb bt.o);rw[bv.o] at J6;go_wp2_with (go_at_call 254;(with_reducible refine J6.o.mono ?_);rintro e w2 ⟨rfl,ag,z⟩;have aM:=qh ag;have b2:=qh z);have FX:=take_any g s i1 w2 aM.o [40] (by decide);rw[bz.o,show tb [40]=⟨#[40]⟩ from rfl] at FX;refine FX.mono ?_;intro e f d;rw[a9.o,if_pos rfl] at d;obtain⟨rfl,aq,Q⟩:=d;have CZ:=qh aq;have Bj:=qh ((bB.o.trans z).trans Q);have FV:=qh ((Zz.o.kp z (by omega)).kp Q (by omega));have bR:W.heap.size<=f.heap.size:=by have h1:=z.size;have h2:=Q.size;omega
 clear FX ag z aq Q;go_upto_region 8 with (fail);obtain⟨W3,m⟩:=aG (f.alloc (.cells #[cn co 3,cn co 0,cp ⟨#[]⟩,cn co 0,cn co 0,cp ⟨#[]⟩,cq none 0 0,cq none 0 0] 67 (0,0)));have ZA:=qh (show bI W3 g s i2 by rw[m];exact CZ.o.alloc _);have yx:=qh (show Kp g w W3 by rw[m];exact Bj.o.alloc _);have OL:=qh (show ZB W3 w.heap.size by rw[m];exact FV.o.alloc _);have ZC:=qh (show ah W3 f.heap.size 67 #[cn co 3,cn co 0,cp ⟨#[]⟩,cn co 0,cn co 0,cp ⟨#[]⟩,cq none 0 0,cq none 0 0] by rw[m];exact ah.new f _ _);have OG:W3.heap.size=f.heap.size+1:=by rw[m];simp
 rw[<- m];clear m;go_wp2_with fail;refine (Oy g s i2 W3 ZA.o).mono ?_;intro e w4 hl;unfold ac0 at hl;rw[an.o] at hl;obtain⟨N,hN⟩:=af (nameAt r);rw[hN] at hl;have HN:=qh hN;cases N with
 | none =>
  obtain⟨rfl,rfl⟩:=hl;have a:R = .err (oZ s.data.toList.length r):=by rw[H.o,HN.o]
  go_wp2_with fail;refine⟨rfl,?_⟩;rw[a];exact⟨rfl,yx.o⟩
 | some nm =>
  obtain⟨i3,rfl,ZE,tZ,O⟩:=hl;have bk:=OH (s:=s) (i:=i2) (by rw[an.o];exact hN) bf;have SY:=qh (show nm.length<=maxLen by unfold maxLen;omega);obtain⟨v4,K⟩:=af (tb nm);have bm:=qh K;have Y:=qh ZE;have pK:=qh (yx.o.trans O);have B4:=ZC.o.kp O (by have:=CZ.o.b.lt;omega);have a0:=qh B4;have Dw:=qh tZ;have VV:=qh (OL.o.kp O (by omega));have b6:W3.heap.size<=w4.heap.size:=O.size;have cl:g<f.heap.size:=CZ.o.b.lt;rw[K];clear hN K ZE tZ O bk;obtain⟨qi,cj,qW,cc,xE,cb,zX,ce,zY,bX,zZ,b3,Aa,ck,Ac,al⟩:=ah.z8 B4;go_wp2_with fail;obtain⟨W4,T⟩:=aG (kR w4 f.heap.size (cn co 5) (cn co ov) (cp v4) (cn co 0) (cn co 0) (cp ⟨#[]⟩) (cq none 0 0) (cq none 0 0));have aR:=qh (show ah W4 f.heap.size 67 #[cn co 5,cn co ov,cp v4,cn co 0,cn co 0,cp ⟨#[]⟩,cq none 0 0,cq none 0 0] by rw[T];exact zq a0.o _ _ _ _ _ _ _ _);have bc:=qh (show bI W4 g s i3 by rw[T];exact Dw.o.kp (eG _ _ _ _ _ _ _ _ _ _ g (by omega)));have ar:=qh (show Kp g w W4 by rw[T];exact tX pK.o (by omega) _ _ _ _ _ _ _ _);have bA:=qh (show ZB W4 w.heap.size by
   rw[T]
   (try unfold ZB);unfold ah
   rw[eG _ _ _ _ _ _ _ _ _ _ _ (by omega)];exact VV.o)
  have b9:W4.heap.size=w4.heap.size:=by rw[T,jl]
  dsimp only[kR] at T;rw[<- T];clear T B4;have jr:=take_any g s i3 W4 bc.o [58] (by decide);obtain⟨i4,X⟩:=af (bD s i3+(bH s i3).length);have ab:=λ h=>jL (s:=s) (i:=i3) (word:=[58]) h;rw[show tb [58]=⟨#[58]⟩ from rfl,X] at jr;rw[X] at ab;refine jr.mono ?_;intro e w5 d;obtain⟨b4,I⟩:=af (lG (wordsOf s.data.toList i3) [58]);rw[I] at d;cases b4
  .rw[if_neg (by decide)] at d;obtain⟨rfl,rfl⟩:=d;have a:R = .err (bD s i3):=by rw[H.o,HN.o];dsimp only;unfold dG;rw[<- Y.o,if_neg (by rw[I];decide),kY]
   go_wp2_with fail;refine⟨rfl,?_⟩;rw[a];exact⟨rfl,ar.o⟩
  .rw[if_pos rfl] at d;obtain⟨rfl,DY,J⟩:=d;have ao:=qh (ab I);have ac:=qh (show R=(Pz s.data.toList.length .or [] (wordsOf s.data.toList i4)).bind λ es l2=>dG s.data.toList.length [41] l2 λ l3=>.ok [iy 5 ov nm es] l3 by
    rw[H.o,HN.o];dsimp only;rw[dG,<- Y.o,if_pos I,<- ao.o.1])
   have CY:=qh DY;have vS:=qh (ar.o.trans J);have wW:=qh (aR.o.kp J (by omega));have be:=qh (bA.o.kp J (by omega));have bP:W4.heap.size<=w5.heap.size:=J.size;clear jr ab X I DY J;go_wp2_with fail;obtain⟨r2,bj⟩:=af (Pz s.data.toList.length .or [] (wordsOf s.data.toList i4));have ay:=Hq.o (wordsOf s.data.toList i4) (by
    have h1:=ao.o.2;have h2:=Y.o;rw[h2,List.length_tail] at h1;omega) g i4 w5 CY.o (HM.o.kp vS.o) rfl
   rw[bj] at ay ac;refine ay.mono ?_;cases r2 with
   | err k =>
    rintro e j ⟨rfl,n⟩;have a:R = .err k:=ac.o;go_wp2_with fail;refine⟨rfl,?_⟩;rw[a];exact⟨rfl,vS.o.trans n⟩
   | ok es l2 =>
    rintro e j ⟨y,U,ca,rfl,rfl,rfl,aD,av,n⟩;have bp:=qh aD;obtain⟨a3,bd,bO,bi,a4,a1,bN⟩:=aD;rename_i A1 c1 A2 c2 ci;clear a4 a1 bN a3 bd bO bi;have am:(aA y A1 c1 A2 c2).toArray = (Ag y A1 c1 A2 y.ar.length c2):=rfl;rw[am];clear am;have ae:=qh (wW.o.kp n (by omega));have bL:=qh (be.o.kp n (by omega));have a2:=qh av;have bn:=qh (vS.o.trans n);have ch:w5.heap.size<=j.heap.size:=n.size;have B6:=ae.o.alloc (.cells (Ag y A1 c1 A2 y.ar.length c2) 67 (0,0));have f7:(j.alloc (.cells (Ag y A1 c1 A2 y.ar.length c2) 67 (0,0))).cell? ⟨f.heap.size,7,none⟩=some (cq none 0 0):=B6.cell 7;have al:(j.alloc (.cells (Ag y A1 c1 A2 y.ar.length c2) 67 (0,0))).frozen? ⟨f.heap.size,7,none⟩=false:=B6.frozen 7;have a5:j.cell? ⟨f.heap.size,7,none⟩=some (cq none 0 0):=ae.o.cell 7;have bE:j.frozen? ⟨f.heap.size,7,none⟩=false:=ae.o.frozen 7;clear av n;go_wp2_with fail;obtain⟨o,S⟩:=aG (j.alloc (.cells (Ag y A1 c1 A2 y.ar.length c2) 67 (0,0)));rw[<- S] at B6 ⊢;have cg:o.heap.size=j.heap.size+1:=by rw[S];simp
    have bb:=qh (show bI o g s U by rw[S];exact a2.o.alloc _);have bh:=qh (show Kp g w o by rw[S];exact bn.o.alloc _);have bl:=qh (show ZB o w.heap.size by rw[S];exact bL.o.alloc _);have ba:=qh (show bY o (λ b=>f.heap.size<b) o.heap.size y (aA y A1 c1 A2 c2) by
     rw[S];exact ((bp.o.imp (q:=λ b=>f.heap.size<b) (λ k hk _=>by omega)).keep (aK.of ((Below.refl _ _).alloc (cu _) _))).up (by simp))
    have aZ:=qh (show bY o (λ b=>f.heap.size<b) o.heap.size (iy 5 ov nm [y]) (aA (iy 5 ov nm [y]) none 0 (some ⟨j.heap.size,0,none⟩) 1) from
     wX (B:=j.heap.size) 5 ov nm SY.o (iO.one ba.o) (λ k hk=>by omega) (by
      have h1:o.ownsRow j.heap.size 67 8 (cq (some ⟨j.heap.size,0,none⟩) 1 1) 1 (aA y A1 c1 A2 c2):=by rw[S];exact DX (ah.new j _ _) (cu _) rfl
      simpa using h1) (show 1<=maxLen by decide))
    clear f7 al a5 bE S;obtain⟨V,FY⟩:=aG (o.setCell ⟨f.heap.size,7,none⟩ (cq (some ⟨j.heap.size,0,none⟩) 1 1));have Ri:∀ k,k≠f.heap.size->V.heap[k]?=o.heap[k]?:=λ k hk=>by rw[FY];exact Below.heap_setCell o ⟨f.heap.size,7,none⟩ _ k hk
    have cf:V.heap.size=o.heap.size:=by rw[FY];simp[World.setCell]
    have a6:=qh (bb.o.kp (Ri g (by omega)));have ap:=qh (show Kp g w V by rw[FY];exact FW bh.o (by omega) _ _);have ZF:=qh (show ah V f.heap.size 67 #[cn co 5,cn co ov,cp v4,cn co 0,cn co 0,cp ⟨#[]⟩,cq none 0 0,cq (some ⟨j.heap.size,0,none⟩) 1 1] by
     rw[FY];have h1:=B6.bP 7 (cq (some ⟨j.heap.size,0,none⟩) 1 1);simpa using h1)
    have ZG:=qh (show ZB V w.heap.size by (try unfold ZB);unfold ah;rw[Ri _ (by omega)];exact bl.o);have aV:=qh (show bY V (λ b=>f.heap.size<b) V.heap.size (iy 5 ov nm [y]) (aA (iy 5 ov nm [y]) none 0 (some ⟨j.heap.size,0,none⟩) 1) from
     (aZ.o.keep ⟨by omega,λ k hk _=>Ri k (by omega)⟩).up (by omega))
    have aL:=qh (show R=dG s.data.toList.length [41] (wordsOf s.data.toList U) λ l=>.ok [iy 5 ov nm [y]] l from ac.o);rw[<- FY];clear FY;have uh:=take_any g s U V a6.o [41] (by decide);obtain⟨i6,LZ⟩:=af (bD s U+(bH s U).length);have P:=λ h=>jL (s:=s) (i:=U) (word:=[41]) h;rw[show tb [41]=⟨#[41]⟩ from rfl,LZ] at uh;rw[LZ] at P;refine uh.mono ?_;intro e w8 d;obtain⟨b5,G⟩:=af (lG (wordsOf s.data.toList U) [41]);rw[G] at d;cases b5
    .rw[if_neg (by decide)] at d;obtain⟨rfl,rfl⟩:=d;have a:R = .err (bD s U):=by rw[aL.o];unfold dG;rw[if_neg (by rw[G];decide),kY]
     have qP:=qh a;clear a uh P LZ;go_wp2_with fail;refine⟨rfl,?_⟩;rw[qP.o];exact⟨rfl,ap.o⟩
    .rw[if_pos rfl] at d;obtain⟨rfl,ZH,C⟩:=d;have a:R = .ok [iy 5 ov nm [y]] (wordsOf s.data.toList i6):=by rw[aL.o];unfold dG;rw[if_pos G,<- (P G).1]
     have qP:=qh a;have bq:=qh (aV.o.kpq C (λ k hk=>by omega));have a7:=qh ZH;have bx:=qh (ap.o.trans C);have B8:=ZF.o.kp C (by omega);have bw:=ZG.o.kp C (by omega);clear a uh P LZ G ZH C;obtain⟨iE,iF,iG,iH,iI,iJ,iK,gX⟩:=ah.c8 B8;obtain⟨fK,lD,gJ,lF,jC,rD,jD,rE,nJ,IV,nK,IW,nM,IX,nN,IY⟩:=ah.z8 bw;go_wp2_with fail;refine bodyPost_ret (v:=.tuple #[.agg #[cn co 5,cn co ov,cp v4,cn co 0,cn co 0,cp ⟨#[]⟩,cq none 0 0,cq (some ⟨j.heap.size,0,none⟩) 1 1],cr true]) (by simp[results,results324,go_sem,fK,gJ,jC,jD,nJ,nK,nM,nN]) rfl ?_;rw[qP.o];have K:=bm.o;subst K;exact Zv (L:=f.heap.size) (x:=iy 5 ov nm [y]) (A:=none) (c:=0) (A':=some ⟨j.heap.size,0,none⟩) (c':=1) bq.o (by omega) a8 a7.o bx.o
end Go.Proofs.YtcnagconagpkcaaGreatDoor
