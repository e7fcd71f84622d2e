/- Lemmas. -/
import Derived.Test.YtcnagconagpkcaaGreatDoorZ11
set_option maxHeartbeats 4000000
set_option maxRecDepth 100000
open Go.Value renaming int->aw, string->ay, slice->aD, pointer->aE, bool->aM, string->a2
open Go.IntKind renaming i64->ax
open Go.Obj renaming cells->aL
open Nat renaming le_refl->aR, le_trans->a0, zero_le->a3, lt_of_lt_of_le->a4, le_succ->a5
open List renaming getElem_mem->a1, take_succ_eq_append_getElem->a6, map_append->a7, map_singleton->a8, map_map->a9, map_id->ba, any_eq_true->bb
namespace Go.Proofs.YtcnagconagpkcaaGreatDoor
open Go.RowKit
attribute [local go_sem ↓] Go.wp_at_zero Go.wp_at_succ
theorem iV (a b:List UInt8):tx a ++ tx b=tx (a ++ b):=by
 unfold tx;exact ByteArray.ext (by rw[ByteArray.data_append];simp)
theorem lQ (l:List UInt8):(tx l).size=l.length:=by unfold tx;simp[ByteArray.size]
theorem EL (l:List UInt8):(tx l).data.toList=l:=by unfold tx;simp
theorem zD {w:World} {B:Nat} {ar:List Ex} {A':Option Addr} {cs:List Value} (b:Reads w B 8 A' ar.length cs) (c:∀ i (h:i<ar.length),aZ w B ar[i] ((cs.drop (i*8)).take 8)) {i:Nat} (h:i<ar.length) :
  ∃ ad a,A'=some ad/\ad.block<B/\aZ w B ar[i] a/\∀ j u,a[j]?=some u->w.cell? ((ad.add (i*8)).add j)=some u:=aZ.arg (e:=.mk 0 0 ⟨#[]⟩ ⟨0,0,⟨#[]⟩,[]⟩ ar) b c h
theorem OQ {t:ByteArray} {l:List UInt8} (h:t.data.toList=l):t=tx l:=by
 unfold tx;rw[<- h]
theorem pV (e:Ex) (B:Nat) (cs:List Value) (w:World) (q:aZ w B e cs):IE 238 #[.agg cs.toArray] w (aw ax (iL e)):=by
 obtain⟨J,L,K,H,q,a,G⟩:=q;rename_i z D v y cs;clear q a G;obtain⟨r,a⟩:=af (iL e);have A:=qh a;rw[a];show Calls Tryz.prog 238 #[.agg (BC e z D v e.ar.length y)] w _;obtain⟨k,s⟩:=af (e.k);obtain⟨c,g⟩:=af (e.op);obtain⟨u,f⟩:=af (e.v.k);obtain⟨E,d⟩:=af (e.v.n);unfold BC;rw[s,g,f,d];unfold iL at a;rw[s,g,f,d] at a;clear s g f d A;by_cases k1:k=1
 .subst k1;by_cases k2:u=2
  .subst k2;by_cases k3:E<0
   .have b:r=7:=by rw[<- a];simp;try omega
    subst b;clear a;go_enter Tryz.func238,Tryz.ntmps238;go_wp2;go_ret;exact⟨ag rfl,(Below.refl _ _).alloc (aR _) _⟩
   .have b:r=8:=by rw[<- a,if_neg (by omega),if_pos (by decide)]
    subst b;clear a;go_enter Tryz.func238,Tryz.ntmps238;go_wp2;go_ret;exact⟨ag rfl,(Below.refl _ _).alloc (aR _) _⟩
  .have I:(u == 2)=false:=by simp;omega
   have b:r=8:=by rw[<- a,if_neg (by omega),if_pos (by decide)]
   subst b;clear a k2;go_enter Tryz.func238,Tryz.ntmps238;go_wp2;go_ret;exact⟨ag rfl,(Below.refl _ _).alloc (aR _) _⟩
 by_cases k4:k=4;rotate_left
 .have x:(k == 1)=false:=by simp;omega
  have C:(k != 4)=true:=by simp;omega
  have b:r=8:=by rw[<- a,if_neg (by omega),if_pos k4]
  subst b;clear a k1 k4;go_enter Tryz.func238,Tryz.ntmps238;go_wp2;go_ret;exact⟨ag rfl,(Below.refl _ _).alloc (aR _) _⟩
 subst k4;clear k1;rw[if_neg (by omega),if_neg (by decide)] at a;by_cases o3:c=3
 .subst o3;have b:r=1:=by rw[<- a];decide
  subst b;clear a;go_enter Tryz.func238,Tryz.ntmps238;go_wp2;go_ret;exact⟨ag rfl,(Below.refl _ _).alloc (aR _) _⟩
 by_cases o2:c=2
 .subst o2;have b:r=2:=by rw[<- a];decide
  subst b;clear a;go_enter Tryz.func238,Tryz.ntmps238;go_wp2;go_ret;exact⟨ag rfl,(Below.refl _ _).alloc (aR _) _⟩
 by_cases o1:c=1
 .subst o1;have b:r=3:=by rw[<- a];decide
  subst b;clear a;go_enter Tryz.func238,Tryz.ntmps238;go_wp2;go_ret;exact⟨ag rfl,(Below.refl _ _).alloc (aR _) _⟩
 rw[if_neg o3,if_neg o2,if_neg o1] at a;have h:(c == 3)=false:=by simp;omega
 have i:(c == 2)=false:=by simp;omega
 have j:(c == 1)=false:=by simp;omega
 clear o1 o2 o3;by_cases q1:4<=c;rotate_left
 .have t:(c == 15)=false:=by simp;omega
  have l:(c == 16)=false:=by simp;omega
  have n:(c == 17)=false:=by simp;omega
  have m:(c == 18)=false:=by simp;omega
  have p:(c == 19)=false:=by simp;omega
  have o:(c == 20)=false:=by simp;omega
  have b:r=8:=by rw[<- a,if_neg (by omega),if_neg (by omega),if_neg (by omega),if_neg (by omega)]
  subst b;clear a;go_enter Tryz.func238,Tryz.ntmps238;go_wp2;go_ret;exact⟨ag rfl,(Below.refl _ _).alloc (aR _) _⟩
 by_cases q2:c<=11
 .have b:r=4:=by rw[<- a,if_pos ⟨q1,q2⟩]
  subst b;clear a;go_enter Tryz.func238,Tryz.ntmps238;go_wp2;go_ret;exact⟨ag rfl,(Below.refl _ _).alloc (aR _) _⟩
 rw[if_neg (by omega)] at a;by_cases o15:c=15
 .subst o15;have b:r=5:=by rw[<- a];decide
  subst b;clear a j i h;go_enter Tryz.func238,Tryz.ntmps238;go_wp2;go_ret;exact⟨ag rfl,(Below.refl _ _).alloc (aR _) _⟩
 by_cases o16:c=16
 .subst o16;have b:r=5:=by rw[<- a];decide
  subst b;clear a j i h;go_enter Tryz.func238,Tryz.ntmps238;go_wp2;go_ret;exact⟨ag rfl,(Below.refl _ _).alloc (aR _) _⟩
 by_cases o17:c=17
 .subst o17;have b:r=6:=by rw[<- a];decide
  subst b;clear a j i h;go_enter Tryz.func238,Tryz.ntmps238;go_wp2;go_ret;exact⟨ag rfl,(Below.refl _ _).alloc (aR _) _⟩
 by_cases o18:c=18
 .subst o18;have b:r=6:=by rw[<- a];decide
  subst b;clear a j i h;go_enter Tryz.func238,Tryz.ntmps238;go_wp2;go_ret;exact⟨ag rfl,(Below.refl _ _).alloc (aR _) _⟩
 by_cases o19:c=19
 .subst o19;have b:r=6:=by rw[<- a];decide
  subst b;clear a j i h;go_enter Tryz.func238,Tryz.ntmps238;go_wp2;go_ret;exact⟨ag rfl,(Below.refl _ _).alloc (aR _) _⟩
 by_cases o20:c=20
 .subst o20;have b:r=7:=by rw[<- a];decide
  subst b;clear a j i h;go_enter Tryz.func238,Tryz.ntmps238;go_wp2;go_ret;exact⟨ag rfl,(Below.refl _ _).alloc (aR _) _⟩
 have t:(c == 15)=false:=by simp;omega
 have l:(c == 16)=false:=by simp;omega
 have n:(c == 17)=false:=by simp;omega
 have m:(c == 18)=false:=by simp;omega
 have p:(c == 19)=false:=by simp;omega
 have o:(c == 20)=false:=by simp;omega
 have b:r=8:=by rw[<- a,if_neg (by omega),if_neg (by omega),if_neg (by omega)]
 subst b;clear a o15 o16 o17 o18 o19 o20;go_enter Tryz.func238,Tryz.ntmps238;go_wp2;go_ret;exact⟨ag rfl,(Below.refl _ _).alloc (aR _) _⟩
def fG (F:FuncId) (e:Ex):Prop:=∀ (B:Nat) (cs:List Value) (w:World),aZ w B e cs->B<=w.heap.size->Tab w->Mx w->IE F #[.agg cs.toArray] w (ay (tx (e.text)))
theorem acb {b:Bool} (t:List UInt8) (h:b=true):tx (sF b t)=tx [40] ++ tx t ++ tx [41]:=by rw[h,iV,iV];rfl
theorem ae0 {b:Bool} (t:List UInt8) (h:b=false):tx (sF b t)=tx t:=by rw[h];rfl
theorem sU (e:Ex) (a:Int) (N:fG 212 e) (T:e.text.length<=1000000000) (B:Nat) (cs:List Value) (w:World) (D:aZ w B e cs) (O:B<=w.heap.size) (f:Tab w) (L:Mx w) :
  IE 240 #[.agg cs.toArray,aw ax a] w (ay (tx (sF (decide (iL e<a)) e.text))):=by
 have R:=qh D;have M:=qh (λ w' (m:IY w w') c (k:aZ w' B e c)=>N B c w' k (a0 O m.size) (aA f m) (L.below m));have K:=qh (λ w' c (k:aZ w' B e c)=>pV e B c w' k);obtain⟨Y,hs,Z,X,D,S,V⟩:=D;rename_i u F o q cs;have I:=qh (λ w' (m:IY w w')=>R.o.keep (m.mono O));obtain⟨r,g⟩:=af (iL e);obtain⟨t,b⟩:=af (tx e.text);have U:t.size<=1000000000:=by rw[<- b,lQ];exact T
 have P:=qh b;have l:=qh g;clear D S V N f L;show Calls Tryz.prog 240 #[.agg (BC e u F o e.ar.length q),aw ax a] w _;go_enter Tryz.func240,Tryz.ntmps240;go_upto_region 1 with (fail);obtain⟨W,n⟩:=aC ((w.alloc (.cells (BC e u F o e.ar.length q) 67 (0,0))));have i:IY w W:=by rw[n];exact ((Below.refl _ w).alloc (aR _) _)
 have B0:ah W (w.heap.size) 67 (BC e u F o e.ar.length q):=by
  rw[n];have:=ah.new w 67 (BC e u F o e.ar.length q);exact this
 have J:W.heap.size=w.heap.size+1:=by rw[n];simp
 rw[<- n];obtain⟨y,E,C,A,x,v,z,p⟩:=ah.c8 B0;clear n J;go_wp2_with fail;refine (K.o W _ (I.o W i)).mono ?_;rw[g];rintro G s ⟨rfl,h⟩;have d:=i.trans (h.mono i.size);have B0:=B0.below h B0.lt;clear y E C A x v z p h g;obtain⟨y,E,C,A,x,v,z,p⟩:=ah.c8 B0;by_cases hlt:r<a
 .have H:=qh (acb e.text (show decide (iL e<a)=true by rw[l.o];exact decide_eq_true hlt));go_wp2_with fail;refine (M.o s d _ (I.o s d)).mono ?_;rw[b];rintro G Q ⟨rfl,j⟩;clear y E C A x v z p b;go_wp2_with fail;go_ret;exact⟨by rw[H.o,P.o];try rfl,d.trans (j.mono d.size)⟩
 .have H:=qh (ae0 e.text (show decide (iL e<a)=false by rw[l.o];exact decide_eq_false hlt));go_wp2_with fail;refine (M.o s d _ (I.o s d)).mono ?_;rw[b];rintro G Q ⟨rfl,j⟩;clear y E C A x v z p b;go_wp2_with fail;go_ret;exact⟨by rw[H.o,P.o];try rfl,d.trans (j.mono d.size)⟩
theorem Dn (ar:List Ex) (p:List UInt8) (c:Int) (hT:∀ a∈ar,fG 212 a) (h9:∀ a∈ar,a.text.length<=1000000000) (al:ar.length<=1000000) (hj:(Lib.join (insL c ar) p).length<=1000000000) (A':Option Addr) (c' B:Nat) (cs:List Value) (w:World) (hr:Reads w B 8 A' ar.length cs) (hi:∀ i (h:i<ar.length),aZ w B ar[i] ((cs.drop (i*8)).take 8)) (hB:B<=w.heap.size) (o:Tab w) (X:Mx w) :
  IE 239 #[aD A' ar.length c',ay (tx p),aw ax c] w (ay (tx (Lib.join (insL c ar) p))):=by
 have HR:=qh (And.intro hr hi);have HJ:=qh hj;have pK:=qh (And.intro o X);have HW:=qh (λ a (ha:a∈ar) cs' w' (ab:aZ w' B a cs') (z:IY w w')=>sU a c (hT a ha) (h9 a ha) B cs' w' ab (a0 hB z.size) (aA o z) (X.below z));obtain⟨i0,K,aa,ac,L⟩:=info_parts xU;have OD:=qh (sG c ar);clear hr hi o X hT h9;go_enter Tryz.func239,Tryz.ntmps239;go_wp2_with fail;have e:IY w w:=Below.refl _ _;go_loopw [12,7] (λ i v wr=>∃ (k:Nat) (u:Value),k<=ar.length/\i = aw ax k/\v=u/\Hid (wr.ownsRow w.heap.size 9 1 u k ((((insL c ar).take k).map tx).map a2))/\IY w wr) (λ i _ _=>ar.length - (intOf i).toNat)
 case atStart=>exact⟨0,_,a3 _,rfl,rfl,qh (World.ownsRow_nil _ _ _ _),e⟩
 case round =>
  obtain⟨k,u,hk,rfl,rfl,HO,e⟩:=hrel;have V:=e.size;have H:=e.mono hB;by_cases hlt:k<ar.length
  .obtain⟨ad,ci,rfl,z,y,d⟩:=zD (HR.o.1.below H) (λ i h=>(HR.o.2 i h).keep H) hlt;obtain⟨a,q⟩:=af (ar[k]);have C:a∈ar:=by rw[<- q];exact a1 hlt
   have f:(insL c ar).take (k+1)=(insL c ar).take k ++ [sF (decide (iL a<c)) a.text]:=by
    have Z:k<(insL c ar).length:=by rw[pU];exact hlt
    rw[a6 Z];congr 2;simp only[OD.o,List.getElem_map,q]
   have S:=qh f;have I:=qh hlt;rw[q] at y;have N:=qh (HW.o a C);have nP:=qh y;obtain⟨ak,an,ao,aq,P,Q,R⟩:=y;rename_i M c3 W c4 am;obtain⟨t,s⟩:=af (tx (sF (decide (iL a<c)) a.text));have jP:=qh s;obtain⟨kC,kT,nZ,tV,tX,tY,tZ,wJ⟩:=Cm d;clear P Q R d q C f z;go_upto_region 5 with (fail);obtain⟨W3,m⟩:=aC (wr.alloc (.cells (BC a M c3 W a.ar.length c4) 67 (0,0)));have G:IY wr W3:=m▸(Below.refl _ wr).alloc (aR _) _;have B3:ah W3 wr.heap.size 67 (BC a M c3 W a.ar.length c4):=m▸ah.new wr _ _;have Us:=qh (show W3.ownsRow w.heap.size 9 1 _ k _ from m▸HO.o.alloc _);rw[<- m];clear m kC kT nZ tV tX tY tZ wJ;have x:=e.trans (G.mono V);obtain⟨Ir,Fz,Iu,Jm,Jn,Jo,Jp,Jq⟩:=ah.c8 B3;go_wp2_with fail;refine (N.o _ W3 (nP.o.keep (G.mono (a0 hB V))) x).mono ?_;rw[s];rintro O w4 ⟨rfl,D⟩;have E:=x.trans (D.mono x.size);have Af:=qh (own_below Us.o D);obtain⟨xs,r⟩:∃ xs:List Value,(((insL c ar).take k).map tx).map a2=xs:=⟨_,rfl⟩;have J:=qh r;rw[r] at Af;have IJ:=qh (λ g hg=>(Af.o.lt g hg).1);clear r s Ir Fz Iu Jm Jn Jo Jp Jq B3;have ap:=E.size;go_wp2_with (at_builtin;refine wpList_append_own _ rfl _ _ 22 rfl w.heap.size 9 i0 (.string ByteArray.empty) 1 16 Tryz.underlying22 K aa ac L rfl (by decide) _ _ _ rfl (Af.o.alloc _) ⟨w4.heap.size,0,none⟩ 1 1 [.string t] rfl rfl ?c1 ?c2 ?c3 ?c4 ?c5 ?_)
   case c1=>intro j u hj;cases j <;> simp_all[go_sem]
   case c2=>intro u hu;simp only[List.mem_singleton] at hu;subst hu;rfl
   case c3=>(have h:=I.o;unfold maxLen;omega)
   case c4=>(have h:=I.o;omega)
   case c5=>(simp;omega)
   intro v2 w5 l A _;have XE:IY w w5:=(E.alloc (by omega) _).grown A (by simp;omega) (λ g hg=>IJ.o g hg);have NM:=qh (show w5.ownsRow w.heap.size 9 1 v2 (k+1) ((((insL c ar).take (k+1)).map tx).map a2) by rw[S.o,a7,a7,a8,a8,jP.o,J.o];exact l);clear l A;go_wp2;go_roundw
   case rel=>exact⟨k+1,v2,I.o,by go_num,rfl,NM,XE⟩
   case measure =>
    have:=I.o;simp[intOf];omega
  .have ae:k=ar.length:=by omega
   have F:(insL c ar).take k=insL c ar:=List.take_of_length_le (by rw[pU];omega);have T:=qh (OH (n:=k) ((insL c ar).map tx) (tx p) wr (by have h:=HO.o;rwa [F] at h) (by rw[List.length_map,pU];omega) (by rw[EL,a9,show ((λ b:ByteArray=>b.data.toList) ∘ tx)=id from funext EL,ba];have:=HJ.o;omega));clear ae F;go_wp2_with fail;refine T.o.mono ?_;rintro O w9 ⟨⟨t,rfl,U⟩,eP⟩;rw[EL,a9,show ((λ b:ByteArray=>b.data.toList) ∘ tx)=id from funext EL,ba] at U;have Y:=qh (OQ U);clear U;go_wp2_with fail;go_ret;exact⟨by rw[Y.o];try rfl,e.trans (eP.mono V)⟩
set_option maxHeartbeats 4000000
set_option maxRecDepth 100000
structure sV (bo:Nat) (w w':World):Prop where
 b:Below bo w w'
 le:w.heap.size<=w'.heap.size
 x:∀ g,g<w.heap.size->g≠bo->g≠bo+1->w'.heap[g]?=w.heap[g]?
theorem sV.refl (bo:Nat) (w:World):sV bo w w:=⟨Below.refl _ _,aR _,λ _ _ _ _=>rfl⟩
theorem sV.trans {bo:Nat} {w w' w'':World} (h:sV bo w w') (a:sV bo w' w''):sV bo w w'':=⟨h.b.trans a.b,a0 h.le a.le,λ g b c d=>(a.x g (a4 b h.le) c d).trans (h.x g b c d)⟩
theorem sV.of {bo:Nat} {w w':World} (h:IY w w') (b:bo<=w.heap.size):sV bo w w':=⟨h.mono b,h.size,λ g a _ _=>h.block g a⟩
theorem sV.blk {bo g:Nat} {T:TypeId} {cs:Array Value} {w w':World} (h:sV bo w w') (a:ah w g T cs) (b:g≠bo) (c:g≠bo+1):ah w' g T cs:=(h.x g a.lt b c).trans a
theorem pre_eq (e:Ex):e.pre=e :: CW e.ar:=by cases e;rfl
theorem JP:∀ (ar:List Ex) (a:Ex),CW (ar ++ [a])=CW ar ++ a.pre
 | [],a=>by simp[CW]
 | b :: r,a=>by rw[List.cons_append,CW,JP r a,CW,List.append_assoc]
theorem YF {σ:Type} (o:FuncId) (d:Array Value) (UX:∀ (a:Array Value) (W:World),(callFunc o a).run Tryz.prog W = .ok (.enter o a) W) (B bo:Nat) (uM:B<=bo) (St:σ->World->Prop) (c:σ->Ex->σ)
  (y:∀ s w w',St s w->bo+2<=w.heap.size->IY w w'->St s w')
  (A:∀ s e cs w,aZ w B e cs->bo+2<=w.heap.size->St s w->Calls Tryz.prog o (#[.agg cs.toArray] ++ d) w λ r w'=>r = .returned (.tuple #[])/\St (c s e) w'/\sV bo w w') (e:Ex) :
  ∀ (s:σ) (cs:List Value) (w:World),aZ w B e cs->bo+2<=w.heap.size->St s w ->
  Calls Tryz.prog 213 #[.agg cs.toArray,.func (.func o) #[] d] w λ r w'=>r = .returned (.tuple #[])/\St (e.pre.foldl c s) w'/\sV bo w w':=by
 induction e using Ex.ind with
 | h e ih =>
  intro s cs w E hB ho;have WI:=qh (pre_eq e);have HI:=qh ih;have HX:=qh E;have p:=qh ho;have v:=qh y;have ae:=qh A;have X:e.ar.length<=maxLen:=by cases E;assumption
  unfold maxLen at X;obtain⟨hn,hs,hl,ha,E,hr,hi⟩:=E;rename_i K F I J cs;have HR:=qh (And.intro hr hi);clear E hr hi ih ho y A;generalize e.pre=R at WI ⊢;show Calls Tryz.prog 213 #[.agg (BC e K F I e.ar.length J),.func (.func o) #[] d] w _;go_enter Tryz.func213,Tryz.ntmps213;go_upto_region 1 with (fail);obtain⟨W,G⟩:=aC ((w.alloc (.cells (BC e K F I e.ar.length J) 67 (0,0))));have g:IY w W:=by rw[G];exact ((Below.refl _ w).alloc (aR _) _)
  have B0:ah W w.heap.size 67 (BC e K F I e.ar.length J):=by rw[G];exact ah.new w _ _
  have L:=qh (v.o s w W p.o hB g);rw[<- G];obtain⟨gG,fZ,fV,gI,gJ,gK,gQ,fM⟩:=ah.c8 B0;clear G;have aq:=g.size;have Z:B<=w.heap.size:=by omega
  have P:w.heap.size≠bo:=by omega
  have ac:w.heap.size≠bo+1:=by omega
  have ak:=qh (show Calls Tryz.prog o (#[.agg (BC e K F I e.ar.length J)] ++ d) W _ from ae.o s e _ W (HX.o.keep (g.mono Z)) (by omega) L.o);go_wp2_with (go_at_fn o;(with_reducible refine ak.o.mono ?_);rintro r w1 ⟨rfl,z,m⟩;have S:=qh z;have wL:=qh ((sV.of (bo:=bo) g (by omega)).trans m);have B1:=m.blk B0 P ac;clear z m gG fZ fV gI gJ gK gQ fM;have gG:=B1.cell 0;have fM:=B1.cell 7);go_loopw [12] (λ i wr=>∃ (k:Nat),k<=e.ar.length/\i = aw ax k/\Hid (St ((e :: CW (e.ar.take k)).foldl c s) wr)/\Hid (sV bo w wr)) (λ i _=>e.ar.length - (intOf i).toNat)
  case atStart=>exact⟨0,a3 _,rfl,by simpa [CW] using S,wL⟩
  case round =>
   obtain⟨k,hk,rfl,p,H⟩:=hrel;have t:=H.o.b;have iT:=H.o.le;by_cases hlt:k<e.ar.length
   .obtain⟨ad,ci,rfl,hb,n,b⟩:=zD (HR.o.1.below (t.mono uM)) (λ i h=>(HR.o.2 i h).keep (t.mono uM)) hlt;obtain⟨a,j⟩:=af (e.ar[k]);have q:a∈e.ar:=by rw[<- j];exact a1 hlt
    have sQ:=qh (show e :: CW (e.ar.take (k+1))=(e :: CW (e.ar.take k)) ++ a.pre by rw[a6 hlt,j,JP];rfl);have aW:=qh hlt;rw[j] at n;have Q:=qh (HI.o a q);have nP:=qh n;obtain⟨al,an,ao,ap,T,U,V⟩:=n;rename_i N O Y M am;obtain⟨kC,kT,nZ,tV,tX,tY,tZ,wJ⟩:=Cm b;clear T U V b j q hb;go_upto_region 5 with (fail);obtain⟨W3,f⟩:=aC (wr.alloc (.cells (BC a N O Y a.ar.length M) 67 (0,0)));have l:IY wr W3:=f▸(Below.refl _ wr).alloc (aR _) _;have B3:ah W3 wr.heap.size 67 (BC a N O Y a.ar.length M):=f▸ah.new wr _ _;have C:bo+2<=wr.heap.size:=by omega
    have Us:=qh (v.o _ wr W3 p.o C l);rw[<- f];clear f kC kT nZ tV tX tY tZ wJ;obtain⟨Ir,Fz,Iu,Jm,Jn,Jo,Jp,Jq⟩:=ah.c8 B3;go_wp2_with fail;refine (Q.o _ _ W3 (nP.o.keep (l.mono (by omega))) (a0 C l.size) Us.o).mono ?_;rintro r w4 ⟨rfl,x,u⟩;have ab:=qh ((H.o.trans (sV.of (bo:=bo) l (by omega))).trans u);have Af:=qh (show St ((e :: CW (e.ar.take (k+1))).foldl c s) w4 by rw[sQ.o,List.foldl_append];exact x);clear x u Ir Fz Iu Jm Jn Jo Jp Jq;go_wp2_with fail;go_roundw
    case rel=>exact⟨k+1,aW.o,by go_num,Af,ab⟩
    case measure =>
     have:=aW.o;simp[intOf];omega
   .have D:k=e.ar.length:=by omega
    have aa:=qh (show St (R.foldl c s) wr by have h:=p.o;rw[D,List.take_length,<- WI.o] at h;exact h);clear p D;go_wp2_with fail;go_end0;exact⟨rfl,aa.o,H.o⟩
set_option maxHeartbeats 4000000
set_option maxRecDepth 100000
theorem OT (m:aG) (A:Option Addr) (c b:Nat) (s:ByteArray) (w:World) (f:w.cell? ⟨b,2,none⟩=some (ay s)) (j:b<w.heap.size) :
  IE 216 #[.agg #[ay m.nm,aw ax m.kind,aD A m.loops.length c],aE (some ⟨b,0,none⟩)] w (aM (decide (m.nm=s))):=by
 obtain⟨W,d⟩:=aC (w.alloc (aL #[ay m.nm,aw ax m.kind,aD A m.loops.length c] 51 (0,0)));have a:IY w W:=d▸az w _;have g:W.cell? ⟨w.heap.size,0,none⟩=some (ay m.nm):=by
  have B:ah W w.heap.size 51 #[ay m.nm,aw ax m.kind,aD A m.loops.length c]:=d▸ah.new w _ _;exact B.cell 0
 have i:W.cell? ⟨b,2,none⟩=some (ay s):=Below.cell_of a f;clear f;go_enter Tryz.func216,Tryz.ntmps216;go_upto_region 1 with (fail);rw[<- d];clear d;go_wp2;go_ret;exact⟨au (by rw[ByteArray.toList_eq,ByteArray.toList_eq,Bool.eq_iff_iff,beq_iff_eq,decide_eq_true_iff];exact⟨λ h=>ByteArray.ext (Array.toList_inj.1 h),λ h=>by rw[h]⟩),a⟩
def OU (s:ByteArray) (l:List aG):Int:=if l.any (λ m=>decide (m.nm=s))=true then (l.findIdx (λ m=>decide (m.nm=s)):Nat) else -1
theorem Q8 (l:List aG) (A:Option Addr) (c p B:Nat) (s:ByteArray) (w:World) (x:bU w B A l) (L:B<=w.heap.size) (H:w.cell? ⟨p,2,none⟩=some (ay s)) (N:p<w.heap.size) :
  IE 244 #[aD A l.length c,.func (.func 216) #[] #[aE (some ⟨p,0,none⟩)]] w (aw ax (OU s l)):=by
 have Q:∀ (a:Array Value) (W:World),(callFunc 216 a).run Tryz.prog W = .ok (.enter 216 a) W:=λ a W=>by simp[callFunc,go_sem,Tryz.func216,Tryz.f216]
 have J:=qh x;have F:=qh (And.intro H N);have E:=x.1;unfold maxLen at E;clear x H;go_enter Tryz.func244,Tryz.ntmps244;go_wp2_with fail;go_loopw [8,5] (λ i _ wr=>∃ k:Nat,k<=l.length/\i = aw ax k/\IY w wr/\Hid (∀ j (g:j<l.length),j<k->decide (l[j].nm=s)=false)) (λ i _ _=>l.length - (intOf i).toNat)
 case atStart=>exact⟨0,a3 _,rfl,Below.refl _ _,qh (λ j _ h=>absurd h (Nat.not_lt_zero _))⟩
 case round =>
  obtain⟨k,R,rfl,b,y⟩:=hrel;by_cases hlt:k<l.length
  .obtain⟨ad,P,rfl,K,o,n⟩:=(J.o.keep (b.mono L)).at_ hlt;obtain⟨⟨G,cm,rfl,-,-⟩,-,-,-⟩:=o;obtain⟨m,u⟩:=af (l[k]);have f:=qh u;rw[u] at n;obtain⟨T,S,O⟩:=IC n;have D:=qh (OT m G cm p s wr (Below.cell_of b F.o.1) (a4 F.o.2 b.size));have r:=qh hlt;clear n K u;obtain⟨q,t⟩:=af (decide (m.nm=s));rw[t] at D;have C:=qh t;clear t;cases q
   .go_wp2_with (go_at_fn 216;refine D.o.mono ?_;rintro e M ⟨rfl,d⟩);go_roundw
    case rel=>exact⟨k+1,r.o,by go_num,b.trans (d.mono b.size),qh (λ j g h=>by
     by_cases e:j=k
     .subst e;rw[f.o];exact C.o
     .exact y.o j g (by omega))⟩
    case measure =>
     have:=r.o;simp[intOf];omega
   .have z:=qh (show OU s l=k by
     unfold OU;rw[if_pos (bb.2 ⟨l[k]'r.o,a1 r.o,by rw[f.o];exact C.o⟩)];congr 1;refine (List.findIdx_eq r.o).2 ⟨by rw[f.o];exact C.o,λ j g=>?_⟩;have:=y.o j (by omega) g;simpa using this)
    go_wp2_with (go_at_fn 216;refine D.o.mono ?_;rintro e M ⟨rfl,d⟩);go_ret;exact⟨ag (by rw[z.o]),b.trans (d.mono b.size)⟩
  .have z:=qh (show OU s l = -1 by
    unfold OU;rw[if_neg];intro h;obtain⟨v,I,o⟩:=bb.1 h;obtain⟨j,g,rfl⟩:=List.mem_iff_getElem.1 I;rw[y.o j g (by omega)] at o;cases o)
   go_wp2_with fail;go_ret;exact⟨ag (by rw[z.o]),b⟩
theorem IZ (l:List aG) (A:Option Addr) (c a B:Nat) (s:ByteArray) (w:World) (d:bU w B A l) (k:B<=w.heap.size) (i:w.cell? ⟨a,2,none⟩=some (ay s)) (n:a<w.heap.size) :
  IE 215 #[aD A l.length c,.func (.func 216) #[] #[aE (some ⟨a,0,none⟩)]] w (aM (l.any (λ m=>decide (m.nm=s)))):=by
 have f:=qh (Q8 l A c a B s w d k i n);have g:=qh (show decide (0<=OU s l)=l.any (λ m=>decide (m.nm=s)) by unfold OU;cases h:l.any (λ m=>decide (m.nm=s)) <;> simp);clear d i;obtain⟨q,j⟩:=af (OU s l);rw[j] at f g;go_enter Tryz.func215,Tryz.ntmps215;go_wp2_with (go_at_call 244;refine f.o.mono ?_;rintro e o ⟨rfl,b⟩);go_ret;exact⟨au (by rw[<- g.o]),b⟩
theorem yu (a:Int) (ar:List Ex) (i:Nat) (h:i<ar.length):(insL a ar).getD i []=sF (decide (iL ar[i]<a)) ar[i].text:=by
 rw[sG,List.getD_eq_getElem?_getD,List.getElem?_map,List.getElem?_eq_getElem h];rfl
theorem Dp (e:Ex) (left right:Int) (hT:∀ a∈e.ar,fG 212 a) (D:∀ a∈e.ar,a.text.length<=1000000000) (V:e.ar.length=2) (B:Nat) (cs:List Value) (w:World) (hx:aZ w B e cs) (L:B<=w.heap.size) (k:Tab w) (hm:Mx w) :
  IE 241 #[.agg cs.toArray,aw ax left,aw ax right] w (ay (tx ((insL left e.ar).getD 0 [] ++ [32] ++ dS e.op ++ [32] ++ (insL right e.ar).getD 1 []))):=by
 obtain⟨hn,hs,hl,ha,hx,hr,hi⟩:=hx;rename_i K J A2 G cs;obtain⟨ad,aq,rfl,ak,rC,g⟩:=zD hr hi (show 0<e.ar.length by omega);obtain⟨an,av,t,X,s,d⟩:=zD hr hi (show 1<e.ar.length by omega);injection t with t;subst t;have x:=yu left e.ar 0 (by omega);have y:=yu right e.ar 1 (by omega);have o:=λ w' i (A:aZ w' B e.ar[0] i) (f:IY w w')=>sU e.ar[0] left (hT _ (a1 _)) (D _ (a1 _)) B i w' A (a0 L f.size) (aA k f) (hm.below f);have n:=λ w' i (A:aZ w' B e.ar[1] i) (f:IY w w')=>sU e.ar[1] right (hT _ (a1 _)) (D _ (a1 _)) B i w' A (a0 L f.size) (aA k f) (hm.below f);have E:=D _ (a1 (show 0<e.ar.length by omega));have H:=D _ (a1 (show 1<e.ar.length by omega));obtain⟨a,z⟩:=af (e.ar[0]);obtain⟨b,C⟩:=af (e.ar[1]);rw[z] at rC x E;rw[C] at s y H;simp only[z] at o;simp only[C] at n;have M:=zC (decide (iL a<left)) a.text;have U:=zC (decide (iL b<right)) b.text;have am:=OO e.op;obtain⟨N,p⟩:=af (tx (sF (decide (iL a<left)) a.text));obtain⟨t1,r⟩:=af (tx (sF (decide (iL b<right)) b.text));obtain⟨tw,m⟩:=af (tx (dS e.op));have s0:N.size<=2000000000:=by rw[<- p,lQ];omega
 have s1:t1.size<=2000000000:=by rw[<- r,lQ];omega
 have sw:tw.size<=3:=by rw[<- m,lQ];omega
 have HV:=qh (show tx ((insL left e.ar).getD 0 [] ++ [32] ++ dS e.op ++ [32] ++ (insL right e.ar).getD 1 [])=N ++ ⟨#[32]⟩ ++ tw ++ ⟨#[32]⟩ ++ t1 by
  rw[x,y,<- p,<- r,<- m,<- iV,<- iV,<- iV,<- iV];rfl)
 rw[p] at o;rw[r] at n;have Y:=qh rC;have Qq:=qh s;obtain⟨z1,z2,z3,z4,ac,ab,al⟩:=rC;rename_i P R A4 O ao;obtain⟨y1,y2,y3,y4,T,ae,aa⟩:=s;rename_i A5 c5 A6 S ap;have l:∀ j u,(ai a P R A4 O)[j]?=some u->w.cell? (ad.add j)=some u:=λ j u Q=>by have h:=g j u Q;rwa [Nat.zero_mul,kH] at h
 have q:∀ j u,(ai b A5 c5 A6 S)[j]?=some u->w.cell? ((ad.add 8).add j)=some u:=λ j u Q=>by have h:=d j u Q;rwa [Nat.one_mul] at h
 obtain⟨kC,kT,nZ,tV,tX,tY,tZ,wJ⟩:=Cm l;have Ir:w.cell? ⟨ad.block,ad.off+8,none⟩=some (aw ax b.k):=q 0 _ rfl;have Fz:w.cell? ⟨ad.block,ad.off+8+1,none⟩=some (aw ax b.op):=q 1 _ rfl;have Iu:w.cell? ⟨ad.block,ad.off+8+2,none⟩=some (ay b.nm):=q 2 _ rfl;have Jm:w.cell? ⟨ad.block,ad.off+8+3,none⟩=some (aw ax b.v.k):=q 3 _ rfl;have Jn:w.cell? ⟨ad.block,ad.off+8+4,none⟩=some (aw ax b.v.n):=q 4 _ rfl;have Jo:w.cell? ⟨ad.block,ad.off+8+5,none⟩=some (ay b.v.s):=q 5 _ rfl;have Jp:w.cell? ⟨ad.block,ad.off+8+6,none⟩=some (aD A5 b.v.l.length c5):=q 6 _ rfl;have Jq:w.cell? ⟨ad.block,ad.off+8+7,none⟩=some (aD A6 b.ar.length S):=q 7 _ rfl;have ar:=qh V;clear hx hr hi hT D k hm g d l q ac ab al T ae aa x y z C p r E H M U ak X am z1 z2 z3 z4 y1 y2 y3 y4;show Calls Tryz.prog 241 #[.agg (BC e K J (some ad) e.ar.length G),aw ax left,aw ax right] w _;rw[V];clear V;go_enter Tryz.func241,Tryz.ntmps241;go_upto_region 1 with (fail);obtain⟨W,F⟩:=aC ((w.alloc (.cells (BC e K J (some ad) 2 G) 67 (0,0))));have c:IY w W:=by rw[F];exact ((Below.refl _ w).alloc (aR _) _)
 have B0:ah W (w.heap.size) 67 (BC e K J (some ad) 2 G):=by
  rw[F];have:=ah.new w 67 (BC e K J (some ad) 2 G);exact this
 have Z:W.heap.size=w.heap.size+1:=by rw[F];simp
 rw[<- F];have k1:∀ w',IY W w'->IE 240 #[.agg #[aw ax a.k,aw ax a.op,ay a.nm,aw ax a.v.k,aw ax a.v.n,ay a.v.s,aD P a.v.l.length R,aD A4 a.ar.length O],aw ax left] w' (ay N):=λ w' f=>o w' _ (Y.o.keep ((c.trans (f.mono c.size)).mono L)) (c.trans (f.mono c.size));have k2:∀ w',IY W w'->IE 240 #[.agg #[aw ax b.k,aw ax b.op,ay b.nm,aw ax b.v.k,aw ax b.v.n,ay b.v.s,aD A5 b.v.l.length c5,aD A6 b.ar.length S],aw ax right] w' (ay t1):=λ w' f=>n w' _ (Qq.o.keep ((c.trans (f.mono c.size)).mono L)) (c.trans (f.mono c.size));have k3:∀ w',IY W w'->IE 265 #[aw ax e.op] w' (ay tw):=λ w' f=>by have h:=QZ e.op w';rwa [m] at h
 have K1:=qh (Later.call k1);have K2:=qh (Later.call k2);have K3:=qh (Later.call k3);have q0:=Later.cell (show W.cell? ⟨w.heap.size,1,none⟩=some (aw ax e.op) from B0.cell 1);have q1:=Later.cell (show W.cell? ⟨w.heap.size,7,none⟩=some (aD (some ad) 2 G) from B0.cell 7);have u0:=Later.cell (Below.cell_of c kC);have v0:=Later.cell (Below.cell_of c Ir);have u1:=Later.cell (Below.cell_of c kT);have v1:=Later.cell (Below.cell_of c Fz);have u2:=Later.cell (Below.cell_of c nZ);have v2:=Later.cell (Below.cell_of c Iu);have u3:=Later.cell (Below.cell_of c tV);have v3:=Later.cell (Below.cell_of c Jm);have u4:=Later.cell (Below.cell_of c tX);have v4:=Later.cell (Below.cell_of c Jn);have u5:=Later.cell (Below.cell_of c tY);have v5:=Later.cell (Below.cell_of c Jo);have u6:=Later.cell (Below.cell_of c tZ);have v6:=Later.cell (Below.cell_of c Jp);have u7:=Later.cell (Below.cell_of c wJ);have v7:=Later.cell (Below.cell_of c Jq);clear k1 k2 k3 o n F Z m B0 kC Ir kT Fz nZ Iu tV Jm tX Jn tY Jo tZ Jp wJ Jq;refine aF (by kernel_rfl) (by kernel_rfl) ?_
 repeat (go_big_quiet_step (first | with_reducible exact K1.o _ | with_reducible exact K2.o _ | with_reducible exact K3.o _))
 refine wpQuiet_nil ?_;intro W9 I;have eP:=dY I;clear I;go_wp2_with fail;go_ret;exact⟨by rw[HV.o];try rfl,c.trans (eP.mono c.size)⟩
end Go.Proofs.YtcnagconagpkcaaGreatDoor
namespace Go.Proofs.YtcnagconagpkcaaGreatDoor
open Go.RowKit
attribute [local go_sem ↓] Go.wp_at_zero Go.wp_at_succ
attribute [local go_sem ↓] ld_item st_item ld_node st_node ld_ans st_ans ld_part st_part ld_rule st_rule ld_form st_form
set_option maxHeartbeats 4000000
set_option maxRecDepth 100000
def TK (wb:World) (s:Int × Int) (w:World):Prop:=IY wb w/\ah w wb.heap.size 28 #[aw ax s.1]/\ah w (wb.heap.size+1) 28 #[aw ax s.2]
theorem TK.later {b w w':World} {s:Int × Int} (h:TK b s w) (a:IY w w'):TK b s w':=
 ⟨h.1.trans (a.mono h.1.size),h.2.1.below a h.2.1.lt,h.2.2.below a h.2.2.lt⟩
theorem TK.out_ {a w:World} {s:Int × Int} (h:TK a s w) (v:Int):TK a (v,s.2) (w.setCell ⟨a.heap.size,0,none⟩ (aw ax v))/\sV a.heap.size w (w.setCell ⟨a.heap.size,0,none⟩ (aw ax v)):=
 ⟨⟨h.1.setCell (p:=⟨a.heap.size,0,none⟩) (aR _) _,h.2.1.eG 0 _,h.2.2.far (by simp) _⟩,
  (Below.refl a.heap.size w).setCell (p:=⟨a.heap.size,0,none⟩) (aR _) _,((Below.refl a.heap.size w).setCell (p:=⟨a.heap.size,0,none⟩) (aR _) _).size,λ g _ b _=>Below.heap_setCell w _ _ g b⟩
theorem TK.early {a w:World} {s:Int × Int} (h:TK a s w) (v:Int):TK a (s.1,v) (w.setCell ⟨a.heap.size+1,0,none⟩ (aw ax v))/\sV a.heap.size w (w.setCell ⟨a.heap.size+1,0,none⟩ (aw ax v)):=
 ⟨⟨h.1.setCell (p:=⟨a.heap.size+1,0,none⟩) (a5 _) _,h.2.1.far (by simp) _,h.2.2.eG 0 _⟩,
  (Below.refl a.heap.size w).setCell (p:=⟨a.heap.size+1,0,none⟩) (a5 _) _,((Below.refl a.heap.size w).setCell (p:=⟨a.heap.size+1,0,none⟩) (a5 _) _).size,λ g _ _ b=>Below.heap_setCell w _ _ g b⟩
structure ahW (wb:World) (B0 gb m1 m2 m3 cg pc pm pn:Nat) (x:nM) (f:bC) (N:List aj) (K:bu) (more:List aG) (AM:Option Addr) (cm n:Nat):Prop where
 bk:bF wb B0 gb m1 m2 m3 x f N K
 cc:wb.cell? ⟨cg,0,none⟩=some (aE (some ⟨gb,0,none⟩))
 pc:wb.cell? ⟨pc,0,none⟩=some (aE (some ⟨cg,0,none⟩))
 pm:wb.cell? ⟨pm,0,none⟩=some (aD AM more.length cm)
 pn:wb.cell? ⟨pn,0,none⟩=some (aw ax n)
 mo:bU wb wb.heap.size AM more
 hn:n<N.length
 par:iQ N
theorem Q9 {I:World} {B0 P m1 m2 m3 cg pc pm pn:Nat} {x:nM} {f:bC} {N:List aj} {K:bu} {more:List aG} {AM:Option Addr} {cm n:Nat} (h:ahW I B0 P m1 m2 m3 cg pc pm pn x f N K more AM cm n)
  (s:Int × Int) (e:Ex) (cs:List Value) (w:World) (hx:aZ w I.heap.size e cs) (hB:I.heap.size+2<=w.heap.size) (hs:TK I s w) :
  Calls Tryz.prog 214 #[.agg cs.toArray,aE (some ⟨pc,0,none⟩),aE (some ⟨pm,0,none⟩),aE (some ⟨I.heap.size,0,none⟩),aE (some ⟨pn,0,none⟩),aE (some ⟨I.heap.size+1,0,none⟩)] w
   λ en w'=>en = .returned (.tuple #[])/\TK I (DY N n more s e) w'/\sV I.heap.size w w':=by
 have H:=qh h;have HS:=qh hs;have HX:=qh hx;obtain⟨R,hR⟩:=af (DY N n more s e);have a:=qh (show R=_ from hR.symm.trans (DY.eq_def N n more s e));rw[hR];obtain⟨aq,-,-,-,-,-,-⟩:=hx;rename_i A1 c1 A2 c2 cs;have ap:=hs.1;have hh:=h.hn;have av:=h.bk.cap;have wB:=h.bk.nodes.1;clear hR hs h;show Calls Tryz.prog 214 #[.agg (BC e A1 c1 A2 e.ar.length c2),aE (some ⟨pc,0,none⟩),aE (some ⟨pm,0,none⟩),aE (some ⟨I.heap.size,0,none⟩),aE (some ⟨pn,0,none⟩),aE (some ⟨I.heap.size+1,0,none⟩)] w _;go_enter Tryz.func214,Tryz.ntmps214;go_upto_region 1 with (fail);obtain⟨W,hW⟩:=aC ((w.alloc (.cells (BC e A1 c1 A2 e.ar.length c2) 67 (0,0))));have T:IY w W:=by rw[hW];exact ((Below.refl _ w).alloc (aR _) _)
 have BE:ah W w.heap.size 67 (BC e A1 c1 A2 e.ar.length c2):=by rw[hW];exact ah.new w _ _
 rw[<- hW];clear hW;have z:=ap.trans (T.mono ap.size)
 -- what is seen later
 have HL:=qh (show ∀ w',IY W w'->w'.cell? ⟨pc,0,none⟩=some (aE (some ⟨cg,0,none⟩))/\w'.cell? ⟨cg,0,none⟩=some (aE (some ⟨P,0,none⟩))/\w'.cell? ⟨pn,0,none⟩=some (aw ax n)/\w'.cell? ⟨pm,0,none⟩=some (aD AM more.length cm)/\w'.cell? ⟨w.heap.size,0,none⟩=some (aw ax e.k)/\w'.cell? ⟨w.heap.size,2,none⟩=some (ay e.nm) from λ w' r=>by
  have U:=z.trans (r.mono z.size);exact⟨Below.cell_of U H.o.pc,Below.cell_of U H.o.cc,Below.cell_of U H.o.pn,Below.cell_of U H.o.pm,Below.cell_of r (BE.cell 0),Below.cell_of r (BE.cell 2)⟩)
 have Q:=qh (show ∀ w',IY W w'->bF w' B0 P m1 m2 m3 x f N K from λ w' r=>H.o.bk.keep (z.trans (r.mono z.size)));obtain⟨C,B,G,L,E,F⟩:=HL.o W (Below.refl _ _);obtain⟨kn,ak⟩:=af (jI N e.nm);have LM:=qh ak;rw[ak] at a;have o:=qh (show ∀ w',IY W w'->TK I s w'/\sV I.heap.size w w' from λ w' r=>⟨(HS.o.later T).later r,sV.of (T.trans (r.mono T.size)) (by omega)⟩);have K1:=qh (Later.call (W:=W) (f:=36) (args:=#[aE (some ⟨P,0,none⟩),ay e.nm]) (v:=aw ax kn) λ w' r=>(xq (Q.o w' r) e.nm aq).mono λ _ _ ⟨he,hw⟩=>⟨by rw[he,LM.o],hw▸Below.refl _ _⟩);have r1:=Later.cell C;have r2:=Later.cell B;have r6:=Later.cell F;clear ak;go_upto_region 1 with (fail);refine aF (by kernel_rfl) (by kernel_rfl) ?_
 repeat (go_big_quiet_step (first | (with_reducible exact K1.o _)))
 refine wpQuiet_nil ?_;intro t c;have g:=dY c;clear c K1 r1 r2 r6 C B G L E F;obtain⟨C,B,G,L,E,F⟩:=HL.o t g;by_cases h2:e.k=2
 .have a:=qh (a.o.trans (if_pos h2));obtain⟨g2,ar⟩:=jk h2;have KC:=qh (IZ more AM cm w.heap.size I.heap.size e.nm t (H.o.mo.keep (z.trans (g.mono z.size))) (a0 z.size g.size) F (a4 BE.lt g.size));obtain⟨x1,al⟩:=af (more.any (λ m=>decide (m.nm=e.nm)));rw[al] at KC a;clear al h2;cases x1
  case true =>
   have a:=qh (a.o.trans (if_pos rfl));go_wp2_with (go_at_call 215;(with_reducible refine KC.o.mono ?_);rintro e1 V ⟨rfl,k⟩)
   (try simp only[Exit.inBlock,Exit.then]);refine bodyPost_ret (results_none rfl _ _ _) rfl ?_
   exact⟨rfl,by rw[a.o];exact (o.o V (g.trans (k.mono g.size))).1,(o.o V (g.trans (k.mono g.size))).2⟩
  have a:=qh (a.o.trans (if_neg (by decide)));go_upto_region 5 with (go_at_call 215;(with_reducible refine KC.o.mono ?_);rintro e1 V ⟨rfl,k⟩);have k:=g.trans (k.mono g.size);clear C B G L E F KC;obtain⟨C,B,G,L,E,F⟩:=HL.o V k;by_cases h0:kn<0
  .have a:=qh (a.o.trans (if_pos (.inl h0)));have S3:=qh (o.o V k);have X:=S3.o.1.2.1.cell 0;have Z:=S3.o.1.2.1.frozen 0;go_wp2;go_end0;exact⟨rfl,by rw[a.o];exact (S3.o.1.out_ 5).1,S3.o.2.trans (S3.o.1.out_ 5).2⟩
  obtain⟨i,Y,l⟩:=AV (N:=N) (s:=e.nm) (by rw[LM.o];exact h0);rw[LM.o] at Y;subst Y;have J:¬ (i:Int)<0:=by omega
  clear h0;obtain⟨ad,I1,j1,I2,j2,I3,j3,I4,j4,I5,j5,B1,b1,B2,b2,B3,b3,Ad,cd,hA,Lr,-,-,hc⟩:=(Q.o V k).pI l;obtain⟨d,M⟩:=af (N[i]);rw[M] at hc;have q:ny N (i:Int)=d:=by rw[jy l,M]
  rw[q] at a;obtain⟨ns,O⟩:∃ cs:List Value,[aw ax d.it.k,ay d.it.nm,aD I1 d.it.iff.length j1,aD I2 d.it.ph.length j2,aD I3 d.it.items.length j3,aM d.it.sh,aD I4 d.it.cnt.length j4,ay d.it.over,aw ax d.it.ans.k,aw ax d.it.ans.lo,aw ax d.it.ans.hi,aw ax d.it.ans.pl,ay d.it.ans.ls,aD B1 d.it.ans.only.length b1,aM d.it.ans.sh,aD B2 d.it.ans.rs.length b2,aM d.it.ans.need,aD B3 d.it.ans.ch.length b3,aD I5 d.it.cmp.length j5,aw ax d.par,aw ax d.mZ,aw ax d.eQ,aD Ad d.lo.length cd]=cs:=⟨_,rfl⟩;have rO:ns.length=23:=by subst O;rfl
  have ao:ns[0]?=some (aw ax d.it.k):=by subst O;rfl
  have Ls:=Gq (w:=V) rO (ad:=ad.add (i*23)) (λ j u hu=>hc j u (by subst O;exact hu));have Gt:=qh (Gs ns d.it.k rO ao V);rw[show (decide (d.it.k=4) || decide (d.it.k=5))=vT d from rfl] at Gt;clear O rO ao hc M q hA;obtain⟨x2,am⟩:=af (vT d);rw[am] at Gt a;clear am;cases x2
  case false =>
   have a:=qh (a.o.trans (if_pos (.inr rfl)));go_wp2_with (go_at_call 109;(with_reducible refine Gt.o.mono ?_);rintro e1 w4 ⟨rfl,ab⟩;have A:=k.trans (ab.mono k.size);have S4:=qh (o.o w4 A);have X:=S4.o.1.2.1.cell 0;have Z:=S4.o.1.2.1.frozen 0);go_end0;exact⟨rfl,by rw[a.o];exact (S4.o.1.out_ 5).1,S4.o.2.trans (S4.o.1.out_ 5).2⟩
  have a:=qh (a.o.trans (if_neg (by rintro (h | h);exact J h;cases h)));go_upto_region 7 with (go_at_call 109;(with_reducible refine Gt.o.mono ?_);rintro e1 w4 ⟨rfl,ab⟩);have A:=k.trans (ab.mono k.size);clear C B G L E F Ls Gt Lr;obtain⟨C,B,G,L,E,F⟩:=HL.o w4 A;obtain⟨x3,y⟩:=af (je N i n);have S:=qh (Later.call (W:=w4) (f:=174) (args:=#[aE (some ⟨P,0,none⟩),aw ax i,aw ax n]) (v:=aM x3) λ w' r=>(yg (Q.o w' (A.trans (r.mono A.size))) H.o.par i n l hh).mono λ _ _ ⟨he,hw⟩=>⟨by rw[he,y],hw⟩);rw[y] at a;have r1:=Later.cell C;have r2:=Later.cell B;have r3:=Later.cell G;clear y;go_upto_region 7 with (fail);refine aF (by kernel_rfl) (by kernel_rfl) ?_
  repeat (go_big_quiet_step (first | (with_reducible exact S.o _)))
  refine wpQuiet_nil ?_;intro D c;have b:=dY c;clear c S r1 r2 r3 C B G L E F;have b:=A.trans (b.mono A.size);cases x3
  .have a:=qh (a.o.trans (if_pos rfl));have p:=qh (o.o D b);have X:=p.o.1.2.2.cell 0;have Z:=p.o.1.2.2.frozen 0;go_wp2;go_end0;exact⟨rfl,by rw[a.o];exact (p.o.1.early 14).1,p.o.2.trans (p.o.1.early 14).2⟩
  .have a:=qh (a.o.trans (if_neg (by decide)));go_wp2;go_end0;exact⟨rfl,by rw[a.o];exact (o.o D b).1,(o.o D b).2⟩
 have a:=qh (a.o.trans (if_neg h2));obtain⟨g2,ar⟩:=fU h2;clear h2;by_cases h35:e.k=3\/e.k=5;rotate_left
 .have a:=qh (a.o.trans (if_neg h35));obtain⟨g3,an⟩:=fU (λ h=>h35 (.inl h));obtain⟨g5,WO⟩:=fU (λ h=>h35 (.inr h));clear h35;go_wp2;go_end0;exact⟨rfl,by rw[a.o];exact (o.o t g).1,(o.o t g).2⟩
 have a:=qh (a.o.trans (if_pos h35));by_cases h5:e.k=5
 .obtain⟨g5,WO⟩:=jk h5;obtain⟨g3,an⟩:=fU (show ¬ e.k=3 by omega);have H5:=qh h5;clear h5 h35;by_cases h0:kn<0
  .have a:=qh (a.o.trans (if_pos (.inl h0)));have S9:=qh (o.o t g);have X:=S9.o.1.2.1.cell 0;have Z:=S9.o.1.2.1.frozen 0;go_wp2;go_end0;exact⟨rfl,by rw[a.o];exact (S9.o.1.out_ 5).1,S9.o.2.trans (S9.o.1.out_ 5).2⟩
  obtain⟨i,Y,l⟩:=AV (N:=N) (s:=e.nm) (by rw[LM.o];exact h0);rw[LM.o] at Y;subst Y;have J:¬ (i:Int)<0:=by omega
  clear h0;obtain⟨ad,I1,j1,hA,-,q0,-,-,-,-,-,-,-⟩:=(Q.o t g).nd_ l;have c5:t.cell? ⟨P,5,none⟩=some (aD x.AN N.length x.cn):=(Q.o t g).blk.cell 5;rw[hA] at c5;obtain⟨d,M⟩:=af (N[i]);have q:ny N (i:Int)=d:=by rw[jy l,M]
  rw[q] at a;rw[M] at q0;clear M q hA;by_cases hk3:d.it.k=3;rotate_left
  .have a:=qh (a.o.trans (if_pos (.inr hk3)));obtain⟨g9,aa⟩:=fU hk3;clear hk3;have S9:=qh (o.o t g);have X:=S9.o.1.2.1.cell 0;have Z:=S9.o.1.2.1.frozen 0;go_wp2;go_end0;exact⟨rfl,by rw[a.o];exact (S9.o.1.out_ 5).1,S9.o.2.trans (S9.o.1.out_ 5).2⟩
  have a:=qh (a.o.trans (if_neg (by rintro (h | h);exact J h;exact h hk3)));obtain⟨g9,aa⟩:=jk hk3;clear hk3;obtain⟨x3,y⟩:=af (je N i n);obtain⟨x4,ae⟩:=af (AP N i n);have S:=qh (Later.call (W:=t) (f:=174) (args:=#[aE (some ⟨P,0,none⟩),aw ax i,aw ax n]) (v:=aM x3) λ w' r=>(yg (Q.o w' (g.trans (r.mono g.size))) H.o.par i n l hh).mono λ _ _ ⟨he,hw⟩=>⟨by rw[he,y],hw⟩);have KR:=qh (Later.call (W:=t) (f:=217) (args:=#[aE (some ⟨P,0,none⟩),aw ax i,aw ax n]) (v:=aM x4) λ w' r=>(QQ (Q.o w' (g.trans (r.mono g.size))) H.o.par i n hh).mono λ _ _ ⟨he,hw⟩=>⟨by rw[he,ae],hw▸Below.refl _ _⟩);rw[y,ae] at a;have r0:=Later.cell E;have r1:=Later.cell C;have r2:=Later.cell B;have r3:=Later.cell G;clear y ae;cases x3
  .have ac:=qh (show R=(s.1,14) from a.o.trans (if_pos ⟨H5.o,.inl rfl⟩));go_upto_region 13 with (fail);refine aF (by kernel_rfl) (by kernel_rfl) ?_
   repeat (go_big_quiet_step (first | (with_reducible exact S.o _) | (with_reducible exact KR.o _)))
   refine wpQuiet_nil ?_;intro D c;have b:=dY c;clear c S KR r0 r1 r2 r3 C B G L E F q0 c5;have b:=g.trans (b.mono g.size);have p:=qh (o.o D b);have X:=p.o.1.2.2.cell 0;have Z:=p.o.1.2.2.frozen 0;go_wp2;go_end0;exact⟨rfl,by rw[ac.o];exact (p.o.1.early 14).1,p.o.2.trans (p.o.1.early 14).2⟩
  cases x4
  .have a:=qh (a.o.trans (if_neg (by rintro ⟨-,h | h⟩ <;> cases h)));go_upto_region 13 with (fail);refine aF (by kernel_rfl) (by kernel_rfl) ?_
   repeat (go_big_quiet_step (first | (with_reducible exact S.o _) | (with_reducible exact KR.o _)))
   refine wpQuiet_nil ?_;intro D c;have b:=dY c;clear c S KR r0 r1 r2 r3 C B G L E F q0 c5;have b:=g.trans (b.mono g.size);go_wp2;go_end0;exact⟨rfl,by rw[a.o];exact (o.o D b).1,(o.o D b).2⟩
  .have ac:=qh (show R=(s.1,14) from a.o.trans (if_pos ⟨H5.o,.inr rfl⟩));go_upto_region 13 with (fail);refine aF (by kernel_rfl) (by kernel_rfl) ?_
   repeat (go_big_quiet_step (first | (with_reducible exact S.o _) | (with_reducible exact KR.o _)))
   refine wpQuiet_nil ?_;intro D c;have b:=dY c;clear c S KR r0 r1 r2 r3 C B G L E F q0 c5;have b:=g.trans (b.mono g.size);have p:=qh (o.o D b);have X:=p.o.1.2.2.cell 0;have Z:=p.o.1.2.2.frozen 0;go_wp2;go_end0;exact⟨rfl,by rw[ac.o];exact (p.o.1.early 14).1,p.o.2.trans (p.o.1.early 14).2⟩
 .obtain⟨g5,WO⟩:=fU h5;obtain⟨g3,an⟩:=jk (h35.resolve_right h5);have H5:=qh h5;clear h5 h35;by_cases h0:kn<0
  .have a:=qh (a.o.trans (if_pos (.inl h0)));have S9:=qh (o.o t g);have X:=S9.o.1.2.1.cell 0;have Z:=S9.o.1.2.1.frozen 0;go_wp2;go_end0;exact⟨rfl,by rw[a.o];exact (S9.o.1.out_ 5).1,S9.o.2.trans (S9.o.1.out_ 5).2⟩
  obtain⟨i,Y,l⟩:=AV (N:=N) (s:=e.nm) (by rw[LM.o];exact h0);rw[LM.o] at Y;subst Y;have J:¬ (i:Int)<0:=by omega
  clear h0;obtain⟨ad,I1,j1,hA,-,q0,-,-,-,-,-,-,-⟩:=(Q.o t g).nd_ l;have c5:t.cell? ⟨P,5,none⟩=some (aD x.AN N.length x.cn):=(Q.o t g).blk.cell 5;rw[hA] at c5;obtain⟨d,M⟩:=af (N[i]);have q:ny N (i:Int)=d:=by rw[jy l,M]
  rw[q] at a;rw[M] at q0;clear M q hA;by_cases hk3:d.it.k=3;rotate_left
  .have a:=qh (a.o.trans (if_pos (.inr hk3)));obtain⟨g9,aa⟩:=fU hk3;clear hk3;have S9:=qh (o.o t g);have X:=S9.o.1.2.1.cell 0;have Z:=S9.o.1.2.1.frozen 0;go_wp2;go_end0;exact⟨rfl,by rw[a.o];exact (S9.o.1.out_ 5).1,S9.o.2.trans (S9.o.1.out_ 5).2⟩
  have a:=qh (a.o.trans (if_neg (by rintro (h | h);exact J h;exact h hk3)));obtain⟨g9,aa⟩:=jk hk3;clear hk3;have a:=qh (a.o.trans (if_neg (λ h=>H5.o h.1)));have r0:=Later.cell E;go_upto_region 13 with (fail);refine aF (by kernel_rfl) (by kernel_rfl) ?_
  repeat (go_big_quiet_step (fail))
  refine wpQuiet_nil ?_;intro D c;have b:=dY c;clear c r0 C B G L E F q0 c5;have b:=g.trans (b.mono g.size);go_wp2;go_end0;exact⟨rfl,by rw[a.o];exact (o.o D b).1,(o.o D b).2⟩
set_option maxHeartbeats 4000000
set_option maxRecDepth 100000
theorem Vp {w:World} {B0 E V P Q:Nat} {x:nM} {f:bC} {N:List aj} {K:bu} (h:bF w B0 E V P Q x f N K) {g:Nat} (I:w.cell? ⟨g,0,none⟩=some (aE (some ⟨E,0,none⟩))) (ab:g<w.heap.size) (Y:iQ N) {more:List aG} {AM:Option Addr} {cm B n:Nat} {e:Ex} {cs:List Value} (C:bU w w.heap.size AM more) (t:aZ w B e cs) (r:B<=w.heap.size) (hn:n<N.length) :
  IE 176 #[aE (some ⟨g,0,none⟩),.agg cs.toArray,aw ax n,aD AM more.length cm] w (aw ax (Gm N e n more)):=by
 have HX:=qh t;have O:=t;obtain⟨-,-,-,-,-,-,-⟩:=O;rename_i o k l m cs;obtain⟨wb,b⟩:=aC ((((w.alloc (aL #[aE (some ⟨g,0,none⟩)] 153 (0,0))).alloc (.cells (BC e o k l e.ar.length m) 67 (0,0))).alloc (aL #[aw ax n] 3 (0,0))).alloc (aL #[aD AM more.length cm] 40 (0,0)));have d:IY w wb:=b▸((((Below.refl w.heap.size w).alloc (aR _) _).alloc (by simp) _).alloc (by simp;omega) _).alloc (by simp;omega) _;have F:wb.heap.size=w.heap.size+4:=by rw[b];simp
 have J:ah wb w.heap.size 153 #[aE (some ⟨g,0,none⟩)]:=b▸(((ah.new w _ _).alloc _).alloc _).alloc _;have u:ah wb (w.heap.size+1) 67 (BC e o k l e.ar.length m):=by
  have:=(((ah.new (w.alloc (aL #[aE (some ⟨g,0,none⟩)] 153 (0,0))) 67 (BC e o k l e.ar.length m)).alloc (aL #[aw ax n] 3 (0,0))).alloc (aL #[aD AM more.length cm] 40 (0,0)));rw[b];simpa using this
 have L:ah wb (w.heap.size+1+1) 3 #[aw ax n]:=by
  have:=((ah.new ((w.alloc (aL #[aE (some ⟨g,0,none⟩)] 153 (0,0))).alloc (.cells (BC e o k l e.ar.length m) 67 (0,0))) 3 #[aw ax n]).alloc (aL #[aD AM more.length cm] 40 (0,0)));rw[b];simpa using this
 have y:ah wb (w.heap.size+1+1+1) 40 #[aD AM more.length cm]:=by
  have:=ah.new (((w.alloc (aL #[aE (some ⟨g,0,none⟩)] 153 (0,0))).alloc (.cells (BC e o k l e.ar.length m) 67 (0,0))).alloc (aL #[aw ax n] 3 (0,0))) 40 #[aD AM more.length cm];rw[b];simpa using this
 have WI:=qh (show ahW wb B0 E V P Q g w.heap.size (w.heap.size+1+1+1) (w.heap.size+1+1) x f N K more AM cm n from
  ⟨h.keep d,Below.cell_of d I,J.cell 0,y.cell 0,L.cell 0,aB.QN (λ _ _ h=>h.up d.size) (C.keep d) d.size,hn,Y⟩)
 obtain⟨W2,c⟩:=aC ((wb.alloc (aL #[aw ax 0] 28 (0,0))).alloc (aL #[aw ax 0] 28 (0,0)));have i:IY wb W2:=c▸((Below.refl wb.heap.size wb).alloc (aR _) _).alloc (by simp) _;have aa:W2.heap.size=wb.heap.size+2:=by rw[c];simp
 have D:=qh (show TK wb (0,0) W2 from ⟨i,c▸(ah.new wb _ _).alloc _,by have:=ah.new (wb.alloc (aL #[aw ax 0] 28 (0,0))) 28 #[aw ax 0];rw[c];simpa using this⟩);have j:B<=wb.heap.size:=a0 r d.size;have T:∀ (a:Array Value) (W:World),(callFunc 214 a).run Tryz.prog W = .ok (.enter 214 a) W:=λ a W=>by simp[callFunc,go_sem,Tryz.func214,Tryz.f214]
 have R:=qh (show Calls Tryz.prog 213 #[.agg (BC e o k l e.ar.length m),.func (.func 214) #[] #[aE (some ⟨w.heap.size,0,none⟩),aE (some ⟨w.heap.size+1+1+1,0,none⟩),aE (some ⟨wb.heap.size,0,none⟩),aE (some ⟨w.heap.size+1+1,0,none⟩),aE (some ⟨wb.heap.size+1,0,none⟩)]] W2 _ from
  YF 214 #[aE (some ⟨w.heap.size,0,none⟩),aE (some ⟨w.heap.size+1+1+1,0,none⟩),aE (some ⟨wb.heap.size,0,none⟩),aE (some ⟨w.heap.size+1+1,0,none⟩),aE (some ⟨wb.heap.size+1,0,none⟩)] T B wb.heap.size j (TK wb) (DY N n more) (λ _ _ _ h _ d=>h.later d)
   (λ s e cs w t r hs=>Q9 WI.o s e cs w (t.up j) r hs) e (0,0) _ W2 (HX.o.keep ((d.mono r).trans (i.mono j))) (by omega) D.o)
 have M:=qh (Gm.eq_def N e n more);obtain⟨S,U⟩:=af (e.pre.foldl (DY N n more) (0,0));rw[U] at R M;clear U T;have v:=qh (u.below i (by omega));have z:=d.trans (i.mono d.size);clear F;show Calls Tryz.prog 176 #[aE (some ⟨g,0,none⟩),.agg (BC e o k l e.ar.length m),aw ax n,aD AM more.length cm] w _;go_enter Tryz.func176,Tryz.ntmps176;go_upto_region 1 with (fail);rw[<- b];clear b;go_upto_region 2 with (fail);rw[<- c];clear c;obtain⟨gG,fZ,fV,gI,gJ,Z,gQ,fM⟩:=ah.c8 v.o;go_upto_region 3 with (go_at_call 213;(with_reducible refine R.o.mono ?_);rintro e1 w3 ⟨rfl,p,A⟩);have q:=z.trans (A.b.mono d.size);have c9:=p.2.1.cell 0;have ac:=p.2.2.cell 0;clear gG fZ fV gI gJ Z gQ fM;by_cases h0:S.1=0
 .have G:=qh (M.o.trans (if_neg (λ h=>h h0)));obtain⟨X,H⟩:=jk h0;clear h0;go_wp2;go_ret;exact⟨ag G.o.symm,q⟩
 .have G:=qh (M.o.trans (if_pos h0));obtain⟨X,H⟩:=fU h0;clear h0;go_wp2;go_ret;exact⟨ag G.o.symm,q⟩
end Go.Proofs.YtcnagconagpkcaaGreatDoor
namespace Go.Proofs.YtcnagconagpkcaaGreatDoor
open Go.RowKit
attribute [local go_sem ↓] Go.wp_at_zero Go.wp_at_succ
theorem Rf (a:Ex) (H:fG 212 a) (M:a.text.length<=1000000000) (B:Nat) (cs:List Value) (w:World) (A:aZ w B a cs) (I:B<=w.heap.size) (e:Tab w) (G:Mx w) :
  IE 242 #[.agg cs.toArray] w (ay (tx ((if a.k=1/\a.v.k=2/\0<=a.v.n then [45,40] ++ a.text ++ [41] else [45] ++ sF (decide (iL a<7)) a.text)))):=by
 have N:=qh A;obtain⟨R,K⟩:=af ((if a.k=1/\a.v.k=2/\0<=a.v.n then [45,40] ++ a.text ++ [41] else [45] ++ sF (decide (iL a<7)) a.text));have x:=qh K;rw[K];clear K;obtain⟨t,f⟩:=af (tx a.text);obtain⟨tp,c⟩:=af (tx (sF (decide (iL a<7)) a.text));have E:=zC (decide (iL a<7)) a.text;have Q:t.size<=2000000000:=by rw[<- f,lQ];omega
 have T:tp.size<=2000000000:=by rw[<- c,lQ];omega
 have L:=qh (λ w' (g:IY w w') cs' (j:aZ w' B a cs')=>H B cs' w' j (a0 I g.size) (aA e g) (G.below g));have HW:=qh (λ w' (g:IY w w') cs' (j:aZ w' B a cs')=>sU a 7 H M B cs' w' j (a0 I g.size) (aA e g) (G.below g));simp only[f] at L;simp only[c] at HW;obtain⟨U,X,V,S,A,O,P⟩:=A;rename_i p D m o cs;have s:=qh (λ w' (g:IY w w')=>N.o.keep (g.mono I));clear A O P H e G E;show Calls Tryz.prog 242 #[.agg (BC a p D m a.ar.length o)] w _;go_enter Tryz.func242,Tryz.ntmps242;go_upto_region 1 with (fail);obtain⟨W,k⟩:=aC ((w.alloc (.cells (BC a p D m a.ar.length o) 67 (0,0))));have b:IY w W:=by rw[k];exact ((Below.refl _ w).alloc (aR _) _)
 have B0:ah W (w.heap.size) 67 (BC a p D m a.ar.length o):=by
  rw[k];have:=ah.new w 67 (BC a p D m a.ar.length o);exact this
 have J:W.heap.size=w.heap.size+1:=by rw[k];simp
 rw[<- k];obtain⟨u,C,y,z,r,q,v,n⟩:=ah.c8 B0;clear k J B0;by_cases d1:a.k=1
 .have b1:(a.k == 1)=true:=by simp[d1]
  by_cases d2:a.v.k=2
  .have b2:(a.v.k == 2)=true:=by simp[d2]
   by_cases d3:0<=a.v.n
   .have i:=qh (show tx R=⟨#[45,40]⟩ ++ t ++ ⟨#[41]⟩ by rw[<- x.o,if_pos ⟨d1,d2,d3⟩,<- f,<- iV,<- iV];rfl);clear f d1 d2;go_wp2_with fail;refine (L.o W b _ (s.o W b)).mono ?_;rintro l F ⟨rfl,d⟩;clear u C y z r q v n;go_wp2_with fail;go_ret;exact⟨by rw[i.o];try rfl,b.trans (d.mono b.size)⟩
   .have i:=qh (show tx R=⟨#[45]⟩ ++ tp by rw[<- x.o,if_neg (λ h=>d3 h.2.2),<- c,<- iV];rfl);clear c d1 d2;go_wp2_with fail;refine (HW.o W b _ (s.o W b)).mono ?_;rintro l F ⟨rfl,d⟩;clear u C y z r q v n;go_wp2_with fail;go_ret;exact⟨by rw[i.o];try rfl,b.trans (d.mono b.size)⟩
  .have b2:(a.v.k == 2)=false:=by simp[d2]
   have i:=qh (show tx R=⟨#[45]⟩ ++ tp by rw[<- x.o,if_neg (λ h=>d2 h.2.1),<- c,<- iV];rfl);clear c d1 d2;go_wp2_with fail;refine (HW.o W b _ (s.o W b)).mono ?_;rintro l F ⟨rfl,d⟩;clear u C y z r q v n;go_wp2_with fail;go_ret;exact⟨by rw[i.o];try rfl,b.trans (d.mono b.size)⟩
 .have b1:(a.k == 1)=false:=by simp[d1]
  have i:=qh (show tx R=⟨#[45]⟩ ++ tp by rw[<- x.o,if_neg (λ h=>d1 h.1),<- c,<- iV];rfl);clear c d1;go_wp2_with fail;refine (HW.o W b _ (s.o W b)).mono ?_;rintro l F ⟨rfl,d⟩;clear u C y z r q v n;go_wp2_with fail;go_ret;exact⟨by rw[i.o];try rfl,b.trans (d.mono b.size)⟩
def xE:List ByteArray:=Lc.map tx
theorem yP (w:World):Calls Tryz.prog 237 #[] w λ e w'=>∃ ad,e = .returned (aD (some ad) 7 7)/\bV w' w'.heap.size (some ad) xE/\IY w w':=by
 go_enter Tryz.func237,Tryz.ntmps237;go_wp2_with fail;go_ret;refine⟨_,rfl,⟨rfl,λ _=>⟨_,rfl,by simp,λ j u b=>?_⟩⟩,(Below.refl _ w).alloc (aR _) _⟩;have e:(⟨w.heap.size,0,none⟩:Addr).add j=⟨w.heap.size,j,none⟩:=by unfold Addr.add;split <;> simp_all
 rw[e,(ah.new w 9 #[ay ⟨#[]⟩,ay ⟨#[115,117,109]⟩,ay ⟨#[99,111,117,110,116]⟩,ay ⟨#[97,110,121]⟩,ay ⟨#[97,108,108]⟩,ay ⟨#[108,101,97,115,116]⟩,ay ⟨#[109,111,115,116]⟩]).cell j];rw[<- b];have a:(jq xE).toArray = #[ay ⟨#[]⟩,ay ⟨#[115,117,109]⟩,ay ⟨#[99,111,117,110,116]⟩,ay ⟨#[97,110,121]⟩,ay ⟨#[97,108,108]⟩,ay ⟨#[108,101,97,115,116]⟩,ay ⟨#[109,111,115,116]⟩]:=by kernel_rfl
 rw[<- a];simp
end Go.Proofs.YtcnagconagpkcaaGreatDoor
