/- Lemmas. -/
import Derived.Test.YtcnagconagpkcaaGreatDoorZ8
set_option maxHeartbeats 4000000
set_option maxRecDepth 100000
open Go.Value renaming int->ax, string->aA, slice->aD, pointer->aE, bool->aM, string->a1
open Go.IntKind renaming i64->ay
open Go.Obj renaming cells->aL
open Nat renaming le_refl->aR, le_trans->aZ, zero_le->a2, lt_of_lt_of_le->a3, le_succ->a4
open List renaming getElem_mem->a0, take_succ_eq_append_getElem->a5, map_append->a6, map_singleton->a7, map_map->a8, map_id->a9, any_eq_true->ba
namespace Go.Proofs.YtcnagconagpkcaaGreatDoor
open Go.RowKit
attribute [local go_sem ↓] Go.wp_at_zero Go.wp_at_succ
theorem iP (a b:List UInt8):tx a ++ tx b=tx (a ++ b):=by
 unfold tx;exact ByteArray.ext (by rw[ByteArray.data_append];simp)
theorem lK (l:List UInt8):(tx l).size=l.length:=by unfold tx;simp[ByteArray.size]
theorem Ed (l:List UInt8):(tx l).data.toList=l:=by unfold tx;simp
theorem yN {w:World} {B:Nat} {ar:List Ex} {A':Option Addr} {cs:List Value} (c:Reads w B 8 A' ar.length cs) (b:∀ i (h:i<ar.length),aQ w B ar[i] ((cs.drop (i*8)).take 8)) {i:Nat} (h:i<ar.length) :
  ∃ ad a,A'=some ad/\ad.block<B/\aQ w B ar[i] a/\∀ j u,a[j]?=some u->w.cell? ((ad.add (i*8)).add j)=some u:=aQ.arg (e:=.mk 0 0 ⟨#[]⟩ ⟨0,0,⟨#[]⟩,[]⟩ ar) c b h
theorem NU {t:ByteArray} {l:List UInt8} (h:t.data.toList=l):t=tx l:=by
 unfold tx;rw[<- h]
theorem pI (e:Ex) (B:Nat) (cs:List Value) (w:World) (n:aQ w B e cs):CS 238 #[.agg cs.toArray] w (ax ay (iE e)):=by
 obtain⟨G,I,H,J,n,a,v⟩:=n;rename_i C y x D cs;clear n a v;obtain⟨r,a⟩:=af (iE e);have z:=qh a;rw[a];show Calls Tryz.prog 238 #[.agg (BC e C y x e.ar.length D)] w _;obtain⟨k,s⟩:=af (e.k);obtain⟨op,d⟩:=af (e.op);obtain⟨t,c⟩:=af (e.v.k);obtain⟨u,f⟩:=af (e.v.n);unfold BC;rw[s,d,c,f];unfold iE at a;rw[s,d,c,f] at a;clear s d c f z;by_cases k1:k=1
 .subst k1;by_cases k2:t=2
  .subst k2;by_cases k3:u<0
   .have b:r=7:=by rw[<- a];simp;try omega
    subst b;clear a;go_enter Tryz.func238,Tryz.ntmps238;go_wp2;go_ret;exact⟨ai rfl,(Below.refl _ _).alloc (aR _) _⟩
   .have b:r=8:=by rw[<- a,if_neg (by omega),if_pos (by decide)]
    subst b;clear a;go_enter Tryz.func238,Tryz.ntmps238;go_wp2;go_ret;exact⟨ai rfl,(Below.refl _ _).alloc (aR _) _⟩
  .have K:(t == 2)=false:=by simp;omega
   have b:r=8:=by rw[<- a,if_neg (by omega),if_pos (by decide)]
   subst b;clear a k2;go_enter Tryz.func238,Tryz.ntmps238;go_wp2;go_ret;exact⟨ai rfl,(Below.refl _ _).alloc (aR _) _⟩
 by_cases k4:k=4;rotate_left
 .have A:(k == 1)=false:=by simp;omega
  have F:(k != 4)=true:=by simp;omega
  have b:r=8:=by rw[<- a,if_neg (by omega),if_pos k4]
  subst b;clear a k1 k4;go_enter Tryz.func238,Tryz.ntmps238;go_wp2;go_ret;exact⟨ai rfl,(Below.refl _ _).alloc (aR _) _⟩
 subst k4;clear k1;rw[if_neg (by omega),if_neg (by decide)] at a;by_cases o3:op=3
 .subst o3;have b:r=1:=by rw[<- a];decide
  subst b;clear a;go_enter Tryz.func238,Tryz.ntmps238;go_wp2;go_ret;exact⟨ai rfl,(Below.refl _ _).alloc (aR _) _⟩
 by_cases o2:op=2
 .subst o2;have b:r=2:=by rw[<- a];decide
  subst b;clear a;go_enter Tryz.func238,Tryz.ntmps238;go_wp2;go_ret;exact⟨ai rfl,(Below.refl _ _).alloc (aR _) _⟩
 by_cases o1:op=1
 .subst o1;have b:r=3:=by rw[<- a];decide
  subst b;clear a;go_enter Tryz.func238,Tryz.ntmps238;go_wp2;go_ret;exact⟨ai rfl,(Below.refl _ _).alloc (aR _) _⟩
 rw[if_neg o3,if_neg o2,if_neg o1] at a;have g:(op == 3)=false:=by simp;omega
 have h:(op == 2)=false:=by simp;omega
 have i:(op == 1)=false:=by simp;omega
 clear o1 o2 o3;by_cases q1:4<=op;rotate_left
 .have m:(op == 15)=false:=by simp;omega
  have q:(op == 16)=false:=by simp;omega
  have l:(op == 17)=false:=by simp;omega
  have o:(op == 18)=false:=by simp;omega
  have p:(op == 19)=false:=by simp;omega
  have j:(op == 20)=false:=by simp;omega
  have b:r=8:=by rw[<- a,if_neg (by omega),if_neg (by omega),if_neg (by omega),if_neg (by omega)]
  subst b;clear a;go_enter Tryz.func238,Tryz.ntmps238;go_wp2;go_ret;exact⟨ai rfl,(Below.refl _ _).alloc (aR _) _⟩
 by_cases q2:op<=11
 .have b:r=4:=by rw[<- a,if_pos ⟨q1,q2⟩]
  subst b;clear a;go_enter Tryz.func238,Tryz.ntmps238;go_wp2;go_ret;exact⟨ai rfl,(Below.refl _ _).alloc (aR _) _⟩
 rw[if_neg (by omega)] at a;by_cases o15:op=15
 .subst o15;have b:r=5:=by rw[<- a];decide
  subst b;clear a i h g;go_enter Tryz.func238,Tryz.ntmps238;go_wp2;go_ret;exact⟨ai rfl,(Below.refl _ _).alloc (aR _) _⟩
 by_cases o16:op=16
 .subst o16;have b:r=5:=by rw[<- a];decide
  subst b;clear a i h g;go_enter Tryz.func238,Tryz.ntmps238;go_wp2;go_ret;exact⟨ai rfl,(Below.refl _ _).alloc (aR _) _⟩
 by_cases o17:op=17
 .subst o17;have b:r=6:=by rw[<- a];decide
  subst b;clear a i h g;go_enter Tryz.func238,Tryz.ntmps238;go_wp2;go_ret;exact⟨ai rfl,(Below.refl _ _).alloc (aR _) _⟩
 by_cases o18:op=18
 .subst o18;have b:r=6:=by rw[<- a];decide
  subst b;clear a i h g;go_enter Tryz.func238,Tryz.ntmps238;go_wp2;go_ret;exact⟨ai rfl,(Below.refl _ _).alloc (aR _) _⟩
 by_cases o19:op=19
 .subst o19;have b:r=6:=by rw[<- a];decide
  subst b;clear a i h g;go_enter Tryz.func238,Tryz.ntmps238;go_wp2;go_ret;exact⟨ai rfl,(Below.refl _ _).alloc (aR _) _⟩
 by_cases o20:op=20
 .subst o20;have b:r=7:=by rw[<- a];decide
  subst b;clear a i h g;go_enter Tryz.func238,Tryz.ntmps238;go_wp2;go_ret;exact⟨ai rfl,(Below.refl _ _).alloc (aR _) _⟩
 have m:(op == 15)=false:=by simp;omega
 have q:(op == 16)=false:=by simp;omega
 have l:(op == 17)=false:=by simp;omega
 have o:(op == 18)=false:=by simp;omega
 have p:(op == 19)=false:=by simp;omega
 have j:(op == 20)=false:=by simp;omega
 have b:r=8:=by rw[<- a,if_neg (by omega),if_neg (by omega),if_neg (by omega)]
 subst b;clear a o15 o16 o17 o18 o19 o20;go_enter Tryz.func238,Tryz.ntmps238;go_wp2;go_ret;exact⟨ai rfl,(Below.refl _ _).alloc (aR _) _⟩
def fD (F:FuncId) (e:Ex):Prop:=∀ (B:Nat) (cs:List Value) (w:World),aQ w B e cs->B<=w.heap.size->Tab w->Mx w->CS F #[.agg cs.toArray] w (aA (tx (e.text)))
theorem abI {b:Bool} (t:List UInt8) (h:b=true):tx (rW b t)=tx [40] ++ tx t ++ tx [41]:=by rw[h,iP,iP];rfl
theorem adZ {b:Bool} (t:List UInt8) (h:b=false):tx (rW b t)=tx t:=by rw[h];rfl
theorem sJ (e:Ex) (a:Int) (N:fD 212 e) (U:e.text.length<=1000000000) (B:Nat) (cs:List Value) (w:World) (v:aQ w B e cs) (L:B<=w.heap.size) (f:Tab w) (O:Mx w) :
  CS 240 #[.agg cs.toArray,ax ay a] w (aA (tx (rW (decide (iE e<a)) e.text))):=by
 have S:=qh v;have M:=qh (λ w' (l:EG w w') c (i:aQ w' B e c)=>N B c w' i (aZ L l.size) (aF f l) (O.below l));have I:=qh (λ w' c (i:aQ w' B e c)=>pI e B c w' i);obtain⟨X,Z,Y,ha,v,R,Q⟩:=v;rename_i z u s F cs;have H:=qh (λ w' (l:EG w w')=>S.o.keep (l.mono L));obtain⟨r,h⟩:=af (iE e);obtain⟨t,b⟩:=af (tx e.text);have V:t.size<=1000000000:=by rw[<- b,lK];exact U
 have P:=qh b;have m:=qh h;clear v R Q N f O;show Calls Tryz.prog 240 #[.agg (BC e z u s e.ar.length F),ax ay a] w _;go_enter Tryz.func240,Tryz.ntmps240;go_upto_region 1 with (fail);obtain⟨W,n⟩:=aH ((w.alloc (.cells (BC e z u s e.ar.length F) 67 (0,0))));have j:EG w W:=by rw[n];exact ((Below.refl _ w).alloc (aR _) _)
 have B0:ag W (w.heap.size) 67 (BC e z u s e.ar.length F):=by
  rw[n];have:=ag.new w 67 (BC e z u s e.ar.length F);exact this
 have K:W.heap.size=w.heap.size+1:=by rw[n];simp
 rw[<- n];obtain⟨o,C,A,y,E,p,D,q⟩:=ag.c8 B0;clear n K;go_wp2_with fail;refine (I.o W _ (H.o W j)).mono ?_;rw[h];rintro G x ⟨rfl,k⟩;have d:=j.trans (k.mono j.size);have B0:=B0.below k B0.lt;clear o C A y E p D q k h;obtain⟨o,C,A,y,E,p,D,q⟩:=ag.c8 B0;by_cases hlt:r<a
 .have J:=qh (abI e.text (show decide (iE e<a)=true by rw[m.o];exact decide_eq_true hlt));go_wp2_with fail;refine (M.o x d _ (H.o x d)).mono ?_;rw[b];rintro G T ⟨rfl,g⟩;clear o C A y E p D q b;go_wp2_with fail;go_ret;exact⟨by rw[J.o,P.o];try rfl,d.trans (g.mono d.size)⟩
 .have J:=qh (adZ e.text (show decide (iE e<a)=false by rw[m.o];exact decide_eq_false hlt));go_wp2_with fail;refine (M.o x d _ (H.o x d)).mono ?_;rw[b];rintro G T ⟨rfl,g⟩;clear o C A y E p D q b;go_wp2_with fail;go_ret;exact⟨by rw[J.o,P.o];try rfl,d.trans (g.mono d.size)⟩
theorem Cm (ar:List Ex) (p:List UInt8) (c:Int) (hT:∀ a∈ar,fD 212 a) (h9:∀ a∈ar,a.text.length<=1000000000) (al:ar.length<=1000000) (hj:(Lib.join (insL c ar) p).length<=1000000000) (A':Option Addr) (c' B:Nat) (cs:List Value) (w:World) (hr:Reads w B 8 A' ar.length cs) (hi:∀ i (h:i<ar.length),aQ w B ar[i] ((cs.drop (i*8)).take 8)) (hB:B<=w.heap.size) (l:Tab w) (O:Mx w) :
  CS 239 #[aD A' ar.length c',aA (tx p),ax ay c] w (aA (tx (Lib.join (insL c ar) p))):=by
 have HR:=qh (And.intro hr hi);have HJ:=qh hj;have o8:=qh (And.intro l O);have HW:=qh (λ a (ha:a∈ar) cs' w' (J:aQ w' B a cs') (D:EG w w')=>sJ a c (hT a ha) (h9 a ha) B cs' w' J (aZ hB D.size) (aF l D) (O.below D));obtain⟨i0,Z,W,ae,X⟩:=info_parts zA;have vF:=qh (rX c ar);clear hr hi l O hT h9;go_enter Tryz.func239,Tryz.ntmps239;go_wp2_with fail;have e:EG w w:=Below.refl _ _;go_loopw [12,7] (λ i v wr=>∃ (k:Nat) (u:Value),k<=ar.length/\i = ax ay k/\v=u/\Hid (wr.ownsRow w.heap.size 9 1 u k ((((insL c ar).take k).map tx).map a1))/\EG w wr) (λ i _ _=>ar.length - (intOf i).toNat)
 case atStart=>exact⟨0,_,a2 _,rfl,rfl,qh (World.ownsRow_nil _ _ _ _),e⟩
 case round =>
  obtain⟨k,u,hk,rfl,rfl,HO,e⟩:=hrel;have N:=e.size;have F:=e.mono hB;by_cases hlt:k<ar.length
  .obtain⟨ad,ci,rfl,D,x,d⟩:=yN (HR.o.1.below F) (λ i h=>(HR.o.2 i h).keep F) hlt;obtain⟨a,q⟩:=af (ar[k]);have E:a∈ar:=by rw[<- q];exact a0 hlt
   have m:(insL c ar).take (k+1)=(insL c ar).take k ++ [rW (decide (iE a<c)) a.text]:=by
    have U:k<(insL c ar).length:=by rw[pG];exact hlt
    rw[a5 U];congr 2;simp only[vF.o,List.getElem_map,q]
   have M:=qh m;have I:=qh hlt;rw[q] at x;have S:=qh (HW.o a E);have tq:=qh x;obtain⟨ap,ak,an,ao,K,R,L⟩:=x;rename_i Y c3 Q c4 am;obtain⟨t,s⟩:=af (tx (rW (decide (iE a<c)) a.text));have jD:=qh s;have qJ:wr.cell? (ad.add (k*8))=some (.int .i64 a.k):=d 0 _ rfl;have rU:wr.cell? ⟨(ad.add (k*8)).block,(ad.add (k*8)).off+1,none⟩=some (.int .i64 a.op):=d 1 _ rfl;have x9:wr.cell? ⟨(ad.add (k*8)).block,(ad.add (k*8)).off+2,none⟩=some (.string a.nm):=d 2 _ rfl;have AP:wr.cell? ⟨(ad.add (k*8)).block,(ad.add (k*8)).off+3,none⟩=some (.int .i64 a.v.k):=d 3 _ rfl;have AQ:wr.cell? ⟨(ad.add (k*8)).block,(ad.add (k*8)).off+4,none⟩=some (.int .i64 a.v.n):=d 4 _ rfl;have AU:wr.cell? ⟨(ad.add (k*8)).block,(ad.add (k*8)).off+5,none⟩=some (.string a.v.s):=d 5 _ rfl;have AV:wr.cell? ⟨(ad.add (k*8)).block,(ad.add (k*8)).off+6,none⟩=some (.slice Y a.v.l.length c3):=d 6 _ rfl;have AZ:wr.cell? ⟨(ad.add (k*8)).block,(ad.add (k*8)).off+7,none⟩=some (.slice Q a.ar.length c4):=d 7 _ rfl;clear K R L d q E m D;go_upto_region 5 with (fail);obtain⟨W3,o⟩:=aH (wr.alloc (.cells (BC a Y c3 Q a.ar.length c4) 67 (0,0)));have G:EG wr W3:=o▸(Below.refl _ wr).alloc (aR _) _;have B3:ag W3 wr.heap.size 67 (BC a Y c3 Q a.ar.length c4):=o▸ag.new wr _ _;have Xd:=qh (show W3.ownsRow w.heap.size 9 1 _ k _ from o▸HO.o.alloc _);rw[<- o];clear o qJ rU x9 AP AQ AU AV AZ;have r:=e.trans (G.mono N);obtain⟨Ls,Lt,Lu,LC,LD,LG,LH,LJ⟩:=ag.c8 B3;go_wp2_with fail;refine (S.o _ W3 (tq.o.keep (G.mono (aZ hB N))) r).mono ?_;rw[s];rintro en w4 ⟨rfl,A⟩;have C:=r.trans (A.mono r.size);have T:=qh (own_below Xd.o A);obtain⟨xs,y⟩:∃ xs:List Value,(((insL c ar).take k).map tx).map a1=xs:=⟨_,rfl⟩;have aa:=qh y;rw[y] at T;have MR:=qh (λ g hg=>(T.o.lt g hg).1);clear y s Ls Lt Lu LC LD LG LH LJ B3;have aq:=C.size;go_wp2_with (at_builtin;refine wpList_append_own _ rfl _ _ 22 rfl w.heap.size 9 i0 (.string ByteArray.empty) 1 16 Tryz.underlying22 Z W ae X rfl (by decide) _ _ _ rfl (T.o.alloc _) ⟨w4.heap.size,0,none⟩ 1 1 [.string t] rfl rfl ?c1 ?c2 ?c3 ?c4 ?c5 ?_)
   case c1=>intro j u hj;cases j <;> simp_all[go_sem]
   case c2=>intro u hu;simp only[List.mem_singleton] at hu;subst hu;rfl
   case c3=>(have h:=I.o;unfold maxLen;omega)
   case c4=>(have h:=I.o;omega)
   case c5=>(simp;omega)
   intro v2 w5 f z _;have ab:EG w w5:=(C.alloc (by omega) _).grown z (by simp;omega) (λ g hg=>MR.o g hg);have PY:=qh (show w5.ownsRow w.heap.size 9 1 v2 (k+1) ((((insL c ar).take (k+1)).map tx).map a1) by rw[M.o,a6,a6,a7,a7,jD.o,aa.o];exact f);clear f z;go_wp2;go_roundw
   case rel=>exact⟨k+1,v2,I.o,by go_num,rfl,PY,ab⟩
   case measure =>
    have:=I.o;simp[intOf];omega
  .have P:k=ar.length:=by omega
   have H:(insL c ar).take k=insL c ar:=List.take_of_length_le (by rw[pG];omega);have V:=qh (NK (n:=k) ((insL c ar).map tx) (tx p) wr (by have h:=HO.o;rwa [H] at h) (by rw[List.length_map,pG];omega) (by rw[Ed,a8,show ((λ b:ByteArray=>b.data.toList) ∘ tx)=id from funext Ed,a9];have:=HJ.o;omega));clear P H;go_wp2_with fail;refine V.o.mono ?_;rintro en w9 ⟨⟨t,rfl,ht⟩,jl⟩;rw[Ed,a8,show ((λ b:ByteArray=>b.data.toList) ∘ tx)=id from funext Ed,a9] at ht;have ac:=qh (NU ht);clear ht;go_wp2_with fail;go_ret;exact⟨by rw[ac.o];try rfl,e.trans (jl.mono N)⟩
set_option maxHeartbeats 4000000
set_option maxRecDepth 100000
structure sK (bo:Nat) (w w':World):Prop where
 b:Below bo w w'
 le:w.heap.size<=w'.heap.size
 x:∀ g,g<w.heap.size->g≠bo->g≠bo+1->w'.heap[g]?=w.heap[g]?
theorem sK.refl (bo:Nat) (w:World):sK bo w w:=⟨Below.refl _ _,aR _,λ _ _ _ _=>rfl⟩
theorem sK.trans {bo:Nat} {w w' w'':World} (h:sK bo w w') (a:sK bo w' w''):sK bo w w'':=⟨h.b.trans a.b,aZ h.le a.le,λ g c d b=>(a.x g (a3 c h.le) d b).trans (h.x g c d b)⟩
theorem sK.of {bo:Nat} {w w':World} (h:EG w w') (b:bo<=w.heap.size):sK bo w w':=⟨h.mono b,h.size,λ g a _ _=>h.block g a⟩
theorem sK.blk {bo g:Nat} {T:TypeId} {cs:Array Value} {w w':World} (h:sK bo w w') (a:ag w g T cs) (b:g≠bo) (c:g≠bo+1):ag w' g T cs:=(h.x g a.lt b c).trans a
theorem pre_eq (e:Ex):e.pre=e :: BQ e.ar:=by cases e;rfl
theorem I8:∀ (ar:List Ex) (a:Ex),BQ (ar ++ [a])=BQ ar ++ a.pre
 | [],a=>by simp[BQ]
 | b :: r,a=>by rw[List.cons_append,BQ,I8 r a,BQ,List.append_assoc]
theorem Yf {σ:Type} (o:FuncId) (d:Array Value) (am:∀ (a:Array Value) (W:World),(callFunc o a).run Tryz.prog W = .ok (.enter o a) W) (B bo:Nat) (xW:B<=bo) (St:σ->World->Prop) (c:σ->Ex->σ)
  (q:∀ s w w',St s w->bo+2<=w.heap.size->EG w w'->St s w')
  (r:∀ s e cs w,aQ w B e cs->bo+2<=w.heap.size->St s w->Calls Tryz.prog o (#[.agg cs.toArray] ++ d) w λ D w'=>D = .returned (.tuple #[])/\St (c s e) w'/\sK bo w w') (e:Ex) :
  ∀ (s:σ) (cs:List Value) (w:World),aQ w B e cs->bo+2<=w.heap.size->St s w ->
  Calls Tryz.prog 213 #[.agg cs.toArray,.func (.func o) #[] d] w λ D w'=>D = .returned (.tuple #[])/\St (e.pre.foldl c s) w'/\sK bo w w':=by
 induction e using Ex.ind with
 | h e ih =>
  intro s cs w y hB ho;have WA:=qh (pre_eq e);have HI:=qh ih;have HX:=qh y;have A:=qh ho;have t:=qh q;have ac:=qh r;have P:e.ar.length<=maxLen:=by cases y;assumption
  unfold maxLen at P;obtain⟨hn,hs,hl,ha,y,hr,hi⟩:=y;rename_i K F I J cs;have HR:=qh (And.intro hr hi);clear y hr hi ih ho q r;generalize e.pre=R at WA ⊢;show Calls Tryz.prog 213 #[.agg (BC e K F I e.ar.length J),.func (.func o) #[] d] w _;go_enter Tryz.func213,Tryz.ntmps213;go_upto_region 1 with (fail);obtain⟨W,H⟩:=aH ((w.alloc (.cells (BC e K F I e.ar.length J) 67 (0,0))));have f:EG w W:=by rw[H];exact ((Below.refl _ w).alloc (aR _) _)
  have B0:ag W w.heap.size 67 (BC e K F I e.ar.length J):=by rw[H];exact ag.new w _ _
  have ab:=qh (t.o s w W A.o hB f);rw[<- H];obtain⟨iK,iL,iM,iQ,iR,iT,iU,iC⟩:=ag.c8 B0;clear H;have aq:=f.size;have X:B<=w.heap.size:=by omega
  have aa:w.heap.size≠bo:=by omega
  have ae:w.heap.size≠bo+1:=by omega
  have Y:=qh (show Calls Tryz.prog o (#[.agg (BC e K F I e.ar.length J)] ++ d) W _ from ac.o s e _ W (HX.o.keep (f.mono X)) (by omega) ab.o);go_wp2_with (go_at_fn o;(with_reducible refine Y.o.mono ?_);rintro D w1 ⟨rfl,p,n⟩;have MN:=qh p;have Ue:=qh ((sK.of (bo:=bo) f (by omega)).trans n);have B1:=n.blk B0 aa ae;clear p n iK iL iM iQ iR iT iU iC;have iK:=B1.cell 0;have iC:=B1.cell 7);go_loopw [12] (λ i wr=>∃ (k:Nat),k<=e.ar.length/\i = ax ay k/\Hid (St ((e :: BQ (e.ar.take k)).foldl c s) wr)/\Hid (sK bo w wr)) (λ i _=>e.ar.length - (intOf i).toNat)
  case atStart=>exact⟨0,a2 _,rfl,by simpa [BQ] using MN,Ue⟩
  case round =>
   obtain⟨k,hk,rfl,A,G⟩:=hrel;have x:=G.o.b;have eY:=G.o.le;by_cases hlt:k<e.ar.length
   .obtain⟨ad,ci,rfl,hb,m,b⟩:=yN (HR.o.1.below (x.mono xW)) (λ i h=>(HR.o.2 i h).keep (x.mono xW)) hlt;obtain⟨a,l⟩:=af (e.ar[k]);have z:a∈e.ar:=by rw[<- l];exact a0 hlt
    have sG:=qh (show e :: BQ (e.ar.take (k+1))=(e :: BQ (e.ar.take k)) ++ a.pre by rw[a5 hlt,l,I8];rfl);have aX:=qh hlt;rw[l] at m;have U:=qh (HI.o a z);have tq:=qh m;obtain⟨ak,al,ao,ap,M,T,N⟩:=m;rename_i Z V S O an;have qJ:wr.cell? (ad.add (k*8))=some (ax ay a.k):=b 0 _ rfl;have rU:wr.cell? ⟨(ad.add (k*8)).block,(ad.add (k*8)).off+1,none⟩=some (ax ay a.op):=b 1 _ rfl;have x9:wr.cell? ⟨(ad.add (k*8)).block,(ad.add (k*8)).off+2,none⟩=some (aA a.nm):=b 2 _ rfl;have AP:wr.cell? ⟨(ad.add (k*8)).block,(ad.add (k*8)).off+3,none⟩=some (ax ay a.v.k):=b 3 _ rfl;have AQ:wr.cell? ⟨(ad.add (k*8)).block,(ad.add (k*8)).off+4,none⟩=some (ax ay a.v.n):=b 4 _ rfl;have AU:wr.cell? ⟨(ad.add (k*8)).block,(ad.add (k*8)).off+5,none⟩=some (aA a.v.s):=b 5 _ rfl;have AV:wr.cell? ⟨(ad.add (k*8)).block,(ad.add (k*8)).off+6,none⟩=some (aD Z a.v.l.length V):=b 6 _ rfl;have AZ:wr.cell? ⟨(ad.add (k*8)).block,(ad.add (k*8)).off+7,none⟩=some (aD S a.ar.length O):=b 7 _ rfl;clear M T N b l z hb;go_upto_region 5 with (fail);obtain⟨W3,j⟩:=aH (wr.alloc (.cells (BC a Z V S a.ar.length O) 67 (0,0)));have g:EG wr W3:=j▸(Below.refl _ wr).alloc (aR _) _;have B3:ag W3 wr.heap.size 67 (BC a Z V S a.ar.length O):=j▸ag.new wr _ _;have v:bo+2<=wr.heap.size:=by omega
    have Xd:=qh (t.o _ wr W3 A.o v g);rw[<- j];clear j qJ rU x9 AP AQ AU AV AZ;obtain⟨Ls,Lt,Lu,LC,LD,LG,LH,LJ⟩:=ag.c8 B3;go_wp2_with fail;refine (U.o _ _ W3 (tq.o.keep (g.mono (by omega))) (aZ v g.size) Xd.o).mono ?_;rintro D w4 ⟨rfl,C,E⟩;have L:=qh ((G.o.trans (sK.of (bo:=bo) g (by omega))).trans E);have G7:=qh (show St ((e :: BQ (e.ar.take (k+1))).foldl c s) w4 by rw[sG.o,List.foldl_append];exact C);clear C E Ls Lt Lu LC LD LG LH LJ;go_wp2_with fail;go_roundw
    case rel=>exact⟨k+1,aX.o,by go_num,G7,L⟩
    case measure =>
     have:=aX.o;simp[intOf];omega
   .have u:k=e.ar.length:=by omega
    have Q:=qh (show St (R.foldl c s) wr by have h:=A.o;rw[u,List.take_length,<- WA.o] at h;exact h);clear A u;go_wp2_with fail;go_end0;exact⟨rfl,Q.o,G.o⟩
set_option maxHeartbeats 4000000
set_option maxRecDepth 100000
theorem NV (m:aY) (A:Option Addr) (c b:Nat) (s:ByteArray) (w:World) (f:w.cell? ⟨b,2,none⟩=some (aA s)) (i:b<w.heap.size) :
  CS 216 #[.agg #[aA m.nm,ax ay m.kind,aD A m.loops.length c],aE (some ⟨b,0,none⟩)] w (aM (decide (m.nm=s))):=by
 obtain⟨W,d⟩:=aH (w.alloc (aL #[aA m.nm,ax ay m.kind,aD A m.loops.length c] 51 (0,0)));have a:EG w W:=d▸aB w _;have j:W.cell? ⟨w.heap.size,0,none⟩=some (aA m.nm):=by
  have B:ag W w.heap.size 51 #[aA m.nm,ax ay m.kind,aD A m.loops.length c]:=d▸ag.new w _ _;exact B.cell 0
 have g:W.cell? ⟨b,2,none⟩=some (aA s):=Below.cell_of a f;clear f;go_enter Tryz.func216,Tryz.ntmps216;go_upto_region 1 with (fail);rw[<- d];clear d;go_wp2;go_ret;exact⟨aj (by rw[ByteArray.toList_eq,ByteArray.toList_eq,Bool.eq_iff_iff,beq_iff_eq,decide_eq_true_iff];exact⟨λ h=>ByteArray.ext (Array.toList_inj.1 h),λ h=>by rw[h]⟩),a⟩
def NW (s:ByteArray) (l:List aY):Int:=if l.any (λ m=>decide (m.nm=s))=true then (l.findIdx (λ m=>decide (m.nm=s)):Nat) else -1
theorem Qv (l:List aY) (A:Option Addr) (c p B:Nat) (s:ByteArray) (w:World) (x:fJ w B A l) (O:B<=w.heap.size) (F:w.cell? ⟨p,2,none⟩=some (aA s)) (J:p<w.heap.size) :
  CS 244 #[aD A l.length c,.func (.func 216) #[] #[aE (some ⟨p,0,none⟩)]] w (ax ay (NW s l)):=by
 have N:∀ (a:Array Value) (W:World),(callFunc 216 a).run Tryz.prog W = .ok (.enter 216 a) W:=λ a W=>by simp[callFunc,go_sem,Tryz.func216,Tryz.f216]
 have M:=qh x;have G:=qh (And.intro F J);have u:=x.1;unfold maxLen at u;clear x F;go_enter Tryz.func244,Tryz.ntmps244;go_wp2_with fail;go_loopw [8,5] (λ i _ wr=>∃ k:Nat,k<=l.length/\i = ax ay k/\EG w wr/\Hid (∀ j (g:j<l.length),j<k->decide (l[j].nm=s)=false)) (λ i _ _=>l.length - (intOf i).toNat)
 case atStart=>exact⟨0,a2 _,rfl,Below.refl _ _,qh (λ j _ h=>absurd h (Nat.not_lt_zero _))⟩
 case round =>
  obtain⟨k,T,rfl,b,t⟩:=hrel;by_cases hlt:k<l.length
  .obtain⟨ad,R,rfl,K,r,n⟩:=(M.o.keep (b.mono O)).at_ hlt;obtain⟨⟨H,cm,rfl,-,-⟩,-,-,-⟩:=r;obtain⟨m,D⟩:=af (l[k]);have f:=qh D;rw[D] at n;have P:wr.cell? (ad.add (k*3))=some (aA m.nm):=n 0 _ rfl;have Q:wr.cell? ⟨(ad.add (k*3)).block,(ad.add (k*3)).off+1,none⟩=some (ax ay m.kind):=n 1 _ rfl;have S:wr.cell? ⟨(ad.add (k*3)).block,(ad.add (k*3)).off+2,none⟩=some (aD H m.loops.length cm):=n 2 _ rfl;have y:=qh (NV m H cm p s wr (Below.cell_of b G.o.1) (a3 G.o.2 b.size));have o:=qh hlt;clear n K D;obtain⟨q,E⟩:=af (decide (m.nm=s));rw[E] at y;have C:=qh E;clear E;cases q
   .go_wp2_with (go_at_fn 216;refine y.o.mono ?_;rintro e L ⟨rfl,d⟩);go_roundw
    case rel=>exact⟨k+1,o.o,by go_num,b.trans (d.mono b.size),qh (λ j g h=>by
     by_cases e:j=k
     .subst e;rw[f.o];exact C.o
     .exact t.o j g (by omega))⟩
    case measure =>
     have:=o.o;simp[intOf];omega
   .have z:=qh (show NW s l=k by
     unfold NW;rw[if_pos (ba.2 ⟨l[k]'o.o,a0 o.o,by rw[f.o];exact C.o⟩)];congr 1;refine (List.findIdx_eq o.o).2 ⟨by rw[f.o];exact C.o,λ j g=>?_⟩;have:=t.o j (by omega) g;simpa using this)
    go_wp2_with (go_at_fn 216;refine y.o.mono ?_;rintro e L ⟨rfl,d⟩);go_ret;exact⟨ai (by rw[z.o]),b.trans (d.mono b.size)⟩
  .have z:=qh (show NW s l = -1 by
    unfold NW;rw[if_neg];intro h;obtain⟨v,I,r⟩:=ba.1 h;obtain⟨j,g,rfl⟩:=List.mem_iff_getElem.1 I;rw[t.o j g (by omega)] at r;cases r)
   go_wp2_with fail;go_ret;exact⟨ai (by rw[z.o]),b⟩
theorem Ia (l:List aY) (A:Option Addr) (c a B:Nat) (s:ByteArray) (w:World) (f:fJ w B A l) (k:B<=w.heap.size) (g:w.cell? ⟨a,2,none⟩=some (aA s)) (j:a<w.heap.size) :
  CS 215 #[aD A l.length c,.func (.func 216) #[] #[aE (some ⟨a,0,none⟩)]] w (aM (l.any (λ m=>decide (m.nm=s)))):=by
 have d:=qh (Qv l A c a B s w f k g j);have i:=qh (show decide (0<=NW s l)=l.any (λ m=>decide (m.nm=s)) by unfold NW;cases h:l.any (λ m=>decide (m.nm=s)) <;> simp);clear f g;obtain⟨q,n⟩:=af (NW s l);rw[n] at d i;go_enter Tryz.func215,Tryz.ntmps215;go_wp2_with (go_at_call 244;refine d.o.mono ?_;rintro e o ⟨rfl,b⟩);go_ret;exact⟨aj (by rw[<- i.o]),b⟩
theorem xI (a:Int) (ar:List Ex) (i:Nat) (h:i<ar.length):(insL a ar).getD i []=rW (decide (iE ar[i]<a)) ar[i].text:=by
 rw[rX,List.getD_eq_getElem?_getD,List.getElem?_map,List.getElem?_eq_getElem h];rfl
theorem CB (e:Ex) (left right:Int) (P:∀ a∈e.ar,fD 212 a) (G:∀ a∈e.ar,a.text.length<=1000000000) (h2:e.ar.length=2) (B:Nat) (cs:List Value) (w:World) (hx:aQ w B e cs) (K:B<=w.heap.size) (k:Tab w) (Q:Mx w) :
  CS 241 #[.agg cs.toArray,ax ay left,ax ay right] w (aA (tx ((insL left e.ar).getD 0 [] ++ [32] ++ dN e.op ++ [32] ++ (insL right e.ar).getD 1 []))):=by
 obtain⟨hn,hs,hl,ha,hx,hr,hi⟩:=hx;rename_i L J A2 F cs;obtain⟨ad,av,rfl,ab,yO,g⟩:=yN hr hi (show 0<e.ar.length by omega);obtain⟨aq,ao,y,ak,s,d⟩:=yN hr hi (show 1<e.ar.length by omega);injection y with y;subst y;have z:=xI left e.ar 0 (by omega);have x:=xI right e.ar 1 (by omega);have m:=λ w' i (t:aQ w' B e.ar[0] i) (f:EG w w')=>sJ e.ar[0] left (P _ (a0 _)) (G _ (a0 _)) B i w' t (aZ K f.size) (aF k f) (Q.below f);have p:=λ w' i (t:aQ w' B e.ar[1] i) (f:EG w w')=>sJ e.ar[1] right (P _ (a0 _)) (G _ (a0 _)) B i w' t (aZ K f.size) (aF k f) (Q.below f);have H:=G _ (a0 (show 0<e.ar.length by omega));have I:=G _ (a0 (show 1<e.ar.length by omega));obtain⟨a,A⟩:=af (e.ar[0]);obtain⟨b,v⟩:=af (e.ar[1]);rw[A] at yO z H;rw[v] at s x I;simp only[A] at m;simp only[v] at p;have R:=yM (decide (iE a<left)) a.text;have ac:=yM (decide (iE b<right)) b.text;have V:=NS e.op;obtain⟨N,n⟩:=af (tx (rW (decide (iE a<left)) a.text));obtain⟨t1,q⟩:=af (tx (rW (decide (iE b<right)) b.text));obtain⟨tw,r⟩:=af (tx (dN e.op));have s0:N.size<=2000000000:=by rw[<- n,lK];omega
 have s1:t1.size<=2000000000:=by rw[<- q,lK];omega
 have sw:tw.size<=3:=by rw[<- r,lK];omega
 have HV:=qh (show tx ((insL left e.ar).getD 0 [] ++ [32] ++ dN e.op ++ [32] ++ (insL right e.ar).getD 1 [])=N ++ ⟨#[32]⟩ ++ tw ++ ⟨#[32]⟩ ++ t1 by
  rw[z,x,<- n,<- q,<- r,<- iP,<- iP,<- iP,<- iP];rfl)
 rw[n] at m;rw[q] at p;have al:=qh yO;have PT:=qh s;obtain⟨z1,z2,z3,z4,X,an,M⟩:=yO;rename_i A3 Y S O aw;obtain⟨y1,y2,y3,y4,ae,am,aa⟩:=s;rename_i A5 c5 T c6 ar;have l:∀ j u,(az a A3 Y S O)[j]?=some u->w.cell? (ad.add j)=some u:=λ j u U=>by have h:=g j u U;rwa [Nat.zero_mul,mf] at h
 have o:∀ j u,(az b A5 c5 T c6)[j]?=some u->w.cell? ((ad.add 8).add j)=some u:=λ j u U=>by have h:=d j u U;rwa [Nat.one_mul] at h
 have qJ:w.cell? (ad)=some (ax ay a.k):=l 0 _ rfl;have rU:w.cell? ⟨(ad).block,(ad).off+1,none⟩=some (ax ay a.op):=l 1 _ rfl;have x9:w.cell? ⟨(ad).block,(ad).off+2,none⟩=some (aA a.nm):=l 2 _ rfl;have AP:w.cell? ⟨(ad).block,(ad).off+3,none⟩=some (ax ay a.v.k):=l 3 _ rfl;have AQ:w.cell? ⟨(ad).block,(ad).off+4,none⟩=some (ax ay a.v.n):=l 4 _ rfl;have AU:w.cell? ⟨(ad).block,(ad).off+5,none⟩=some (aA a.v.s):=l 5 _ rfl;have AV:w.cell? ⟨(ad).block,(ad).off+6,none⟩=some (aD A3 a.v.l.length Y):=l 6 _ rfl;have AZ:w.cell? ⟨(ad).block,(ad).off+7,none⟩=some (aD S a.ar.length O):=l 7 _ rfl;have Ls:w.cell? ⟨ad.block,ad.off+8,none⟩=some (ax ay b.k):=o 0 _ rfl;have Lt:w.cell? ⟨ad.block,ad.off+8+1,none⟩=some (ax ay b.op):=o 1 _ rfl;have Lu:w.cell? ⟨ad.block,ad.off+8+2,none⟩=some (aA b.nm):=o 2 _ rfl;have LC:w.cell? ⟨ad.block,ad.off+8+3,none⟩=some (ax ay b.v.k):=o 3 _ rfl;have LD:w.cell? ⟨ad.block,ad.off+8+4,none⟩=some (ax ay b.v.n):=o 4 _ rfl;have LG:w.cell? ⟨ad.block,ad.off+8+5,none⟩=some (aA b.v.s):=o 5 _ rfl;have LH:w.cell? ⟨ad.block,ad.off+8+6,none⟩=some (aD A5 b.v.l.length c5):=o 6 _ rfl;have LJ:w.cell? ⟨ad.block,ad.off+8+7,none⟩=some (aD T b.ar.length c6):=o 7 _ rfl;have ap:=qh h2;clear hx hr hi P G k Q g d l o X an M ae am aa z x A v n q H I R ac ab ak V z1 z2 z3 z4 y1 y2 y3 y4;show Calls Tryz.prog 241 #[.agg (BC e L J (some ad) e.ar.length F),ax ay left,ax ay right] w _;rw[h2];clear h2;go_enter Tryz.func241,Tryz.ntmps241;go_upto_region 1 with (fail);obtain⟨W,E⟩:=aH ((w.alloc (.cells (BC e L J (some ad) 2 F) 67 (0,0))));have c:EG w W:=by rw[E];exact ((Below.refl _ w).alloc (aR _) _)
 have B0:ag W (w.heap.size) 67 (BC e L J (some ad) 2 F):=by
  rw[E];have:=ag.new w 67 (BC e L J (some ad) 2 F);exact this
 have Z:W.heap.size=w.heap.size+1:=by rw[E];simp
 rw[<- E];have k1:∀ w',EG W w'->CS 240 #[.agg (BC a A3 Y S a.ar.length O),ax ay left] w' (aA N):=λ w' f=>m w' _ (al.o.keep ((c.trans (f.mono c.size)).mono K)) (c.trans (f.mono c.size));have k2:∀ w',EG W w'->CS 240 #[.agg (BC b A5 c5 T b.ar.length c6),ax ay right] w' (aA t1):=λ w' f=>p w' _ (PT.o.keep ((c.trans (f.mono c.size)).mono K)) (c.trans (f.mono c.size));have k3:∀ w',EG W w'->CS 265 #[ax ay e.op] w' (aA tw):=λ w' f=>by have h:=Qp e.op w';rwa [r] at h
 have K1:=qh (Later.call k1);have K2:=qh (Later.call k2);have K3:=qh (Later.call k3);have q0:=Later.cell (show W.cell? ⟨w.heap.size,1,none⟩=some (ax ay e.op) from B0.cell 1);have q1:=Later.cell (show W.cell? ⟨w.heap.size,7,none⟩=some (aD (some ad) 2 F) from B0.cell 7);have u0:=Later.cell (Below.cell_of c qJ);have v0:=Later.cell (Below.cell_of c Ls);have u1:=Later.cell (Below.cell_of c rU);have v1:=Later.cell (Below.cell_of c Lt);have u2:=Later.cell (Below.cell_of c x9);have v2:=Later.cell (Below.cell_of c Lu);have u3:=Later.cell (Below.cell_of c AP);have v3:=Later.cell (Below.cell_of c LC);have u4:=Later.cell (Below.cell_of c AQ);have v4:=Later.cell (Below.cell_of c LD);have u5:=Later.cell (Below.cell_of c AU);have v5:=Later.cell (Below.cell_of c LG);have u6:=Later.cell (Below.cell_of c AV);have v6:=Later.cell (Below.cell_of c LH);have u7:=Later.cell (Below.cell_of c AZ);have v7:=Later.cell (Below.cell_of c LJ);clear k1 k2 k3 m p E Z r B0 qJ Ls rU Lt x9 Lu AP LC AQ LD AU LG AV LH AZ LJ;refine aO (by kernel_rfl) (by kernel_rfl) ?_
 repeat (go_big_quiet_step (first | with_reducible exact K1.o _ | with_reducible exact K2.o _ | with_reducible exact K3.o _))
 refine wpQuiet_nil ?_;intro W9 D;have jl:=jg D;clear D;go_wp2_with fail;go_ret;exact⟨by rw[HV.o];try rfl,c.trans (jl.mono c.size)⟩
end Go.Proofs.YtcnagconagpkcaaGreatDoor
namespace Go.Proofs.YtcnagconagpkcaaGreatDoor
open Go.RowKit
attribute [local go_sem ↓] Go.wp_at_zero Go.wp_at_succ
attribute [local go_sem ↓] ld_item st_item ld_node st_node ld_ans st_ans ld_part st_part ld_rule st_rule ld_form st_form
set_option maxHeartbeats 4000000
set_option maxRecDepth 100000
def SX (wb:World) (s:Int × Int) (w:World):Prop:=EG wb w/\ag w wb.heap.size 28 #[ax ay s.1]/\ag w (wb.heap.size+1) 28 #[ax ay s.2]
theorem SX.later {b w w':World} {s:Int × Int} (h:SX b s w) (a:EG w w'):SX b s w':=
 ⟨h.1.trans (a.mono h.1.size),h.2.1.below a h.2.1.lt,h.2.2.below a h.2.2.lt⟩
theorem SX.out_ {a w:World} {s:Int × Int} (h:SX a s w) (v:Int):SX a (v,s.2) (w.setCell ⟨a.heap.size,0,none⟩ (ax ay v))/\sK a.heap.size w (w.setCell ⟨a.heap.size,0,none⟩ (ax ay v)):=
 ⟨⟨h.1.setCell (p:=⟨a.heap.size,0,none⟩) (aR _) _,h.2.1.dS 0 _,h.2.2.far (by simp) _⟩,
  (Below.refl a.heap.size w).setCell (p:=⟨a.heap.size,0,none⟩) (aR _) _,((Below.refl a.heap.size w).setCell (p:=⟨a.heap.size,0,none⟩) (aR _) _).size,λ g _ b _=>Below.heap_setCell w _ _ g b⟩
theorem SX.early {a w:World} {s:Int × Int} (h:SX a s w) (v:Int):SX a (s.1,v) (w.setCell ⟨a.heap.size+1,0,none⟩ (ax ay v))/\sK a.heap.size w (w.setCell ⟨a.heap.size+1,0,none⟩ (ax ay v)):=
 ⟨⟨h.1.setCell (p:=⟨a.heap.size+1,0,none⟩) (a4 _) _,h.2.1.far (by simp) _,h.2.2.dS 0 _⟩,
  (Below.refl a.heap.size w).setCell (p:=⟨a.heap.size+1,0,none⟩) (a4 _) _,((Below.refl a.heap.size w).setCell (p:=⟨a.heap.size+1,0,none⟩) (a4 _) _).size,λ g _ _ b=>Below.heap_setCell w _ _ g b⟩
structure ahg (wb:World) (B0 gb m1 m2 m3 cg pc pm pn:Nat) (x:ku) (f:aG) (N:List ah) (K:aV) (more:List aY) (AM:Option Addr) (cm n:Nat):Prop where
 bk:aJ wb B0 gb m1 m2 m3 x f N K
 cc:wb.cell? ⟨cg,0,none⟩=some (aE (some ⟨gb,0,none⟩))
 pc:wb.cell? ⟨pc,0,none⟩=some (aE (some ⟨cg,0,none⟩))
 pm:wb.cell? ⟨pm,0,none⟩=some (aD AM more.length cm)
 pn:wb.cell? ⟨pn,0,none⟩=some (ax ay n)
 mo:fJ wb wb.heap.size AM more
 hn:n<N.length
 par:eH N
theorem Qw {G:World} {B0 U m1 m2 m3 cg pc pm pn:Nat} {x:ku} {f:aG} {N:List ah} {K:aV} {more:List aY} {AM:Option Addr} {cm n:Nat} (h:ahg G B0 U m1 m2 m3 cg pc pm pn x f N K more AM cm n)
  (s:Int × Int) (e:Ex) (cs:List Value) (w:World) (hx:aQ w G.heap.size e cs) (hB:G.heap.size+2<=w.heap.size) (hs:SX G s w) :
  Calls Tryz.prog 214 #[.agg cs.toArray,aE (some ⟨pc,0,none⟩),aE (some ⟨pm,0,none⟩),aE (some ⟨G.heap.size,0,none⟩),aE (some ⟨pn,0,none⟩),aE (some ⟨G.heap.size+1,0,none⟩)] w
   λ en w'=>en = .returned (.tuple #[])/\SX G (Dj N n more s e) w'/\sK G.heap.size w w':=by
 have H:=qh h;have HS:=qh hs;have HX:=qh hx;obtain⟨R,hR⟩:=af (Dj N n more s e);have a:=qh (show R=_ from hR.symm.trans (Dj.eq_def N n more s e));rw[hR];obtain⟨aq,-,-,-,-,-,-⟩:=hx;rename_i A1 c1 A2 c2 cs;have an:=hs.1;have hh:=h.hn;have av:=h.bk.cap;have su:=h.bk.nodes.1;clear hR hs h;show Calls Tryz.prog 214 #[.agg (BC e A1 c1 A2 e.ar.length c2),aE (some ⟨pc,0,none⟩),aE (some ⟨pm,0,none⟩),aE (some ⟨G.heap.size,0,none⟩),aE (some ⟨pn,0,none⟩),aE (some ⟨G.heap.size+1,0,none⟩)] w _;go_enter Tryz.func214,Tryz.ntmps214;go_upto_region 1 with (fail);obtain⟨W,hW⟩:=aH ((w.alloc (.cells (BC e A1 c1 A2 e.ar.length c2) 67 (0,0))));have O:EG w W:=by rw[hW];exact ((Below.refl _ w).alloc (aR _) _)
 have BE:ag W w.heap.size 67 (BC e A1 c1 A2 e.ar.length c2):=by rw[hW];exact ag.new w _ _
 rw[<- hW];clear hW;have A:=an.trans (O.mono an.size)
 -- what is seen later
 have HL:=qh (show ∀ w',EG W w'->w'.cell? ⟨pc,0,none⟩=some (aE (some ⟨cg,0,none⟩))/\w'.cell? ⟨cg,0,none⟩=some (aE (some ⟨U,0,none⟩))/\w'.cell? ⟨pn,0,none⟩=some (ax ay n)/\w'.cell? ⟨pm,0,none⟩=some (aD AM more.length cm)/\w'.cell? ⟨w.heap.size,0,none⟩=some (ax ay e.k)/\w'.cell? ⟨w.heap.size,2,none⟩=some (aA e.nm) from λ w' r=>by
  have Q:=A.trans (r.mono A.size);exact⟨Below.cell_of Q H.o.pc,Below.cell_of Q H.o.cc,Below.cell_of Q H.o.pn,Below.cell_of Q H.o.pm,Below.cell_of r (BE.cell 0),Below.cell_of r (BE.cell 2)⟩)
 have S:=qh (show ∀ w',EG W w'->aJ w' B0 U m1 m2 m3 x f N K from λ w' r=>H.o.bk.keep (A.trans (r.mono A.size)));obtain⟨C,B,D,J,I,F⟩:=HL.o W (Below.refl _ _);obtain⟨kn,ab⟩:=af (bG N e.nm);have JZ:=qh ab;rw[ab] at a;have o:=qh (show ∀ w',EG W w'->SX G s w'/\sK G.heap.size w w' from λ w' r=>⟨(HS.o.later O).later r,sK.of (O.trans (r.mono O.size)) (by omega)⟩);have K1:=qh (Later.call (W:=W) (f:=36) (args:=#[aE (some ⟨U,0,none⟩),aA e.nm]) (v:=ax ay kn) λ w' r=>(oD (S.o w' r) e.nm aq).mono λ _ _ ⟨he,hw⟩=>⟨by rw[he,JZ.o],hw▸Below.refl _ _⟩);have r1:=Later.cell C;have r2:=Later.cell B;have r6:=Later.cell F;clear ab;go_upto_region 1 with (fail);refine aO (by kernel_rfl) (by kernel_rfl) ?_
 repeat (go_big_quiet_step (first | (with_reducible exact K1.o _)))
 refine wpQuiet_nil ?_;intro t c;have g:=jg c;clear c K1 r1 r2 r6 C B D J I F;obtain⟨C,B,D,J,I,F⟩:=HL.o t g;by_cases h2:e.k=2
 .have a:=qh (a.o.trans (if_pos h2));obtain⟨g2,ar⟩:=jf h2;have KC:=qh (Ia more AM cm w.heap.size G.heap.size e.nm t (H.o.mo.keep (A.trans (g.mono A.size))) (aZ A.size g.size) F (a3 BE.lt g.size));obtain⟨x1,al⟩:=af (more.any (λ m=>decide (m.nm=e.nm)));rw[al] at KC a;clear al h2;cases x1
  case true =>
   have a:=qh (a.o.trans (if_pos rfl));go_wp2_with (go_at_call 215;(with_reducible refine KC.o.mono ?_);rintro e1 V ⟨rfl,k⟩)
   (try simp only[Exit.inBlock,Exit.then]);refine bodyPost_ret (results_none rfl _ _ _) rfl ?_
   exact⟨rfl,by rw[a.o];exact (o.o V (g.trans (k.mono g.size))).1,(o.o V (g.trans (k.mono g.size))).2⟩
  have a:=qh (a.o.trans (if_neg (by decide)));go_upto_region 5 with (go_at_call 215;(with_reducible refine KC.o.mono ?_);rintro e1 V ⟨rfl,k⟩);have k:=g.trans (k.mono g.size);clear C B D J I F KC;obtain⟨C,B,D,J,I,F⟩:=HL.o V k;by_cases h0:kn<0
  .have a:=qh (a.o.trans (if_pos (.inl h0)));have S3:=qh (o.o V k);have Z:=S3.o.1.2.1.cell 0;have X:=S3.o.1.2.1.frozen 0;go_wp2;go_end0;exact⟨rfl,by rw[a.o];exact (S3.o.1.out_ 5).1,S3.o.2.trans (S3.o.1.out_ 5).2⟩
  obtain⟨i,Y,l⟩:=um (N:=N) (s:=e.nm) (by rw[JZ.o];exact h0);rw[JZ.o] at Y;subst Y;have L:¬ (i:Int)<0:=by omega
  clear h0;obtain⟨ad,I1,j1,I2,j2,I3,j3,I4,j4,I5,j5,B1,b1,B2,b2,B3,b3,Ad,cd,hA,LM,-,-,hc⟩:=(S.o V k).oW l;obtain⟨d,M⟩:=af (N[i]);rw[M] at hc;have p:je N (i:Int)=d:=by rw[iY l,M]
  rw[p] at a;obtain⟨ns,T⟩:∃ cs:List Value,[ax ay d.it.k,aA d.it.nm,aD I1 d.it.iff.length j1,aD I2 d.it.ph.length j2,aD I3 d.it.items.length j3,aM d.it.sh,aD I4 d.it.cnt.length j4,aA d.it.over,ax ay d.it.ans.k,ax ay d.it.ans.lo,ax ay d.it.ans.hi,ax ay d.it.ans.pl,aA d.it.ans.ls,aD B1 d.it.ans.only.length b1,aM d.it.ans.sh,aD B2 d.it.ans.rs.length b2,aM d.it.ans.need,aD B3 d.it.ans.ch.length b3,aD I5 d.it.cmp.length j5,ax ay d.par,ax ay d.kV,ax ay d.dJ,aD Ad d.lo.length cd]=cs:=⟨_,rfl⟩;have oZ:ns.length=23:=by subst T;rfl
  have am:ns[0]?=some (ax ay d.it.k):=by subst T;rfl
  have yK:=yl (w:=V) oZ (ad:=ad.add (i*23)) (λ j u hu=>hc j u (by subst T;exact hu));have Fh:=qh (Ff ns d.it.k oZ am V);rw[show (decide (d.it.k=4) || decide (d.it.k=5))=EZ d from rfl] at Fh;clear T oZ am hc M p hA;obtain⟨x2,ao⟩:=af (EZ d);rw[ao] at Fh a;clear ao;cases x2
  case false =>
   have a:=qh (a.o.trans (if_pos (.inr rfl)));go_wp2_with (go_at_call 109;(with_reducible refine Fh.o.mono ?_);rintro e1 w4 ⟨rfl,ac⟩;have z:=k.trans (ac.mono k.size);have S4:=qh (o.o w4 z);have Z:=S4.o.1.2.1.cell 0;have X:=S4.o.1.2.1.frozen 0);go_end0;exact⟨rfl,by rw[a.o];exact (S4.o.1.out_ 5).1,S4.o.2.trans (S4.o.1.out_ 5).2⟩
  have a:=qh (a.o.trans (if_neg (by rintro (h | h);exact L h;cases h)));go_upto_region 7 with (go_at_call 109;(with_reducible refine Fh.o.mono ?_);rintro e1 w4 ⟨rfl,ac⟩);have z:=k.trans (ac.mono k.size);clear C B D J I F yK Fh LM;obtain⟨C,B,D,J,I,F⟩:=HL.o w4 z;obtain⟨x3,y⟩:=af (jo N i n);have P:=qh (Later.call (W:=w4) (f:=174) (args:=#[aE (some ⟨U,0,none⟩),ax ay i,ax ay n]) (v:=aM x3) λ w' r=>(xG (S.o w' (z.trans (r.mono z.size))) H.o.par i n l hh).mono λ _ _ ⟨he,hw⟩=>⟨by rw[he,y],hw⟩);rw[y] at a;have r1:=Later.cell C;have r2:=Later.cell B;have r3:=Later.cell D;clear y;go_upto_region 7 with (fail);refine aO (by kernel_rfl) (by kernel_rfl) ?_
  repeat (go_big_quiet_step (first | (with_reducible exact P.o _)))
  refine wpQuiet_nil ?_;intro E c;have b:=jg c;clear c P r1 r2 r3 C B D J I F;have b:=z.trans (b.mono z.size);cases x3
  .have a:=qh (a.o.trans (if_pos rfl));have q:=qh (o.o E b);have Z:=q.o.1.2.2.cell 0;have X:=q.o.1.2.2.frozen 0;go_wp2;go_end0;exact⟨rfl,by rw[a.o];exact (q.o.1.early 14).1,q.o.2.trans (q.o.1.early 14).2⟩
  .have a:=qh (a.o.trans (if_neg (by decide)));go_wp2;go_end0;exact⟨rfl,by rw[a.o];exact (o.o E b).1,(o.o E b).2⟩
 have a:=qh (a.o.trans (if_neg h2));obtain⟨g2,ar⟩:=gp h2;clear h2;by_cases h35:e.k=3\/e.k=5;rotate_left
 .have a:=qh (a.o.trans (if_neg h35));obtain⟨g3,ap⟩:=gp (λ h=>h35 (.inl h));obtain⟨g5,WJ⟩:=gp (λ h=>h35 (.inr h));clear h35;go_wp2;go_end0;exact⟨rfl,by rw[a.o];exact (o.o t g).1,(o.o t g).2⟩
 have a:=qh (a.o.trans (if_pos h35));by_cases h5:e.k=5
 .obtain⟨g5,WJ⟩:=jf h5;obtain⟨g3,ap⟩:=gp (show ¬ e.k=3 by omega);have H5:=qh h5;clear h5 h35;by_cases h0:kn<0
  .have a:=qh (a.o.trans (if_pos (.inl h0)));have S9:=qh (o.o t g);have Z:=S9.o.1.2.1.cell 0;have X:=S9.o.1.2.1.frozen 0;go_wp2;go_end0;exact⟨rfl,by rw[a.o];exact (S9.o.1.out_ 5).1,S9.o.2.trans (S9.o.1.out_ 5).2⟩
  obtain⟨i,Y,l⟩:=um (N:=N) (s:=e.nm) (by rw[JZ.o];exact h0);rw[JZ.o] at Y;subst Y;have L:¬ (i:Int)<0:=by omega
  clear h0;obtain⟨ad,I1,j1,hA,-,q0,-,-,-,-,-,-,-⟩:=(S.o t g).WH l;have c5:t.cell? ⟨U,5,none⟩=some (aD x.AN N.length x.cn):=(S.o t g).blk.cell 5;rw[hA] at c5;obtain⟨d,M⟩:=af (N[i]);have p:je N (i:Int)=d:=by rw[iY l,M]
  rw[p] at a;rw[M] at q0;clear M p hA;by_cases hk3:d.it.k=3;rotate_left
  .have a:=qh (a.o.trans (if_pos (.inr hk3)));obtain⟨g9,ae⟩:=gp hk3;clear hk3;have S9:=qh (o.o t g);have Z:=S9.o.1.2.1.cell 0;have X:=S9.o.1.2.1.frozen 0;go_wp2;go_end0;exact⟨rfl,by rw[a.o];exact (S9.o.1.out_ 5).1,S9.o.2.trans (S9.o.1.out_ 5).2⟩
  have a:=qh (a.o.trans (if_neg (by rintro (h | h);exact L h;exact h hk3)));obtain⟨g9,ae⟩:=jf hk3;clear hk3;obtain⟨x3,y⟩:=af (jo N i n);obtain⟨x4,aa⟩:=af (zI N i n);have P:=qh (Later.call (W:=t) (f:=174) (args:=#[aE (some ⟨U,0,none⟩),ax ay i,ax ay n]) (v:=aM x3) λ w' r=>(xG (S.o w' (g.trans (r.mono g.size))) H.o.par i n l hh).mono λ _ _ ⟨he,hw⟩=>⟨by rw[he,y],hw⟩);have KR:=qh (Later.call (W:=t) (f:=217) (args:=#[aE (some ⟨U,0,none⟩),ax ay i,ax ay n]) (v:=aM x4) λ w' r=>(Qj (S.o w' (g.trans (r.mono g.size))) H.o.par i n hh).mono λ _ _ ⟨he,hw⟩=>⟨by rw[he,aa],hw▸Below.refl _ _⟩);rw[y,aa] at a;have r0:=Later.cell I;have r1:=Later.cell C;have r2:=Later.cell B;have r3:=Later.cell D;clear y aa;cases x3
  .have ak:=qh (show R=(s.1,14) from a.o.trans (if_pos ⟨H5.o,.inl rfl⟩));go_upto_region 13 with (fail);refine aO (by kernel_rfl) (by kernel_rfl) ?_
   repeat (go_big_quiet_step (first | (with_reducible exact P.o _) | (with_reducible exact KR.o _)))
   refine wpQuiet_nil ?_;intro E c;have b:=jg c;clear c P KR r0 r1 r2 r3 C B D J I F q0 c5;have b:=g.trans (b.mono g.size);have q:=qh (o.o E b);have Z:=q.o.1.2.2.cell 0;have X:=q.o.1.2.2.frozen 0;go_wp2;go_end0;exact⟨rfl,by rw[ak.o];exact (q.o.1.early 14).1,q.o.2.trans (q.o.1.early 14).2⟩
  cases x4
  .have a:=qh (a.o.trans (if_neg (by rintro ⟨-,h | h⟩ <;> cases h)));go_upto_region 13 with (fail);refine aO (by kernel_rfl) (by kernel_rfl) ?_
   repeat (go_big_quiet_step (first | (with_reducible exact P.o _) | (with_reducible exact KR.o _)))
   refine wpQuiet_nil ?_;intro E c;have b:=jg c;clear c P KR r0 r1 r2 r3 C B D J I F q0 c5;have b:=g.trans (b.mono g.size);go_wp2;go_end0;exact⟨rfl,by rw[a.o];exact (o.o E b).1,(o.o E b).2⟩
  .have ak:=qh (show R=(s.1,14) from a.o.trans (if_pos ⟨H5.o,.inr rfl⟩));go_upto_region 13 with (fail);refine aO (by kernel_rfl) (by kernel_rfl) ?_
   repeat (go_big_quiet_step (first | (with_reducible exact P.o _) | (with_reducible exact KR.o _)))
   refine wpQuiet_nil ?_;intro E c;have b:=jg c;clear c P KR r0 r1 r2 r3 C B D J I F q0 c5;have b:=g.trans (b.mono g.size);have q:=qh (o.o E b);have Z:=q.o.1.2.2.cell 0;have X:=q.o.1.2.2.frozen 0;go_wp2;go_end0;exact⟨rfl,by rw[ak.o];exact (q.o.1.early 14).1,q.o.2.trans (q.o.1.early 14).2⟩
 .obtain⟨g5,WJ⟩:=gp h5;obtain⟨g3,ap⟩:=jf (h35.resolve_right h5);have H5:=qh h5;clear h5 h35;by_cases h0:kn<0
  .have a:=qh (a.o.trans (if_pos (.inl h0)));have S9:=qh (o.o t g);have Z:=S9.o.1.2.1.cell 0;have X:=S9.o.1.2.1.frozen 0;go_wp2;go_end0;exact⟨rfl,by rw[a.o];exact (S9.o.1.out_ 5).1,S9.o.2.trans (S9.o.1.out_ 5).2⟩
  obtain⟨i,Y,l⟩:=um (N:=N) (s:=e.nm) (by rw[JZ.o];exact h0);rw[JZ.o] at Y;subst Y;have L:¬ (i:Int)<0:=by omega
  clear h0;obtain⟨ad,I1,j1,hA,-,q0,-,-,-,-,-,-,-⟩:=(S.o t g).WH l;have c5:t.cell? ⟨U,5,none⟩=some (aD x.AN N.length x.cn):=(S.o t g).blk.cell 5;rw[hA] at c5;obtain⟨d,M⟩:=af (N[i]);have p:je N (i:Int)=d:=by rw[iY l,M]
  rw[p] at a;rw[M] at q0;clear M p hA;by_cases hk3:d.it.k=3;rotate_left
  .have a:=qh (a.o.trans (if_pos (.inr hk3)));obtain⟨g9,ae⟩:=gp hk3;clear hk3;have S9:=qh (o.o t g);have Z:=S9.o.1.2.1.cell 0;have X:=S9.o.1.2.1.frozen 0;go_wp2;go_end0;exact⟨rfl,by rw[a.o];exact (S9.o.1.out_ 5).1,S9.o.2.trans (S9.o.1.out_ 5).2⟩
  have a:=qh (a.o.trans (if_neg (by rintro (h | h);exact L h;exact h hk3)));obtain⟨g9,ae⟩:=jf hk3;clear hk3;have a:=qh (a.o.trans (if_neg (λ h=>H5.o h.1)));have r0:=Later.cell I;go_upto_region 13 with (fail);refine aO (by kernel_rfl) (by kernel_rfl) ?_
  repeat (go_big_quiet_step (fail))
  refine wpQuiet_nil ?_;intro E c;have b:=jg c;clear c r0 C B D J I F q0 c5;have b:=g.trans (b.mono g.size);go_wp2;go_end0;exact⟨rfl,by rw[a.o];exact (o.o E b).1,(o.o E b).2⟩
set_option maxHeartbeats 4000000
set_option maxRecDepth 100000
theorem U1 {w:World} {B0 H U T V:Nat} {x:ku} {f:aG} {N:List ah} {K:aV} (h:aJ w B0 H U T V x f N K) {g:Nat} (y:w.cell? ⟨g,0,none⟩=some (aE (some ⟨H,0,none⟩))) (aa:g<w.heap.size) (hN:eH N) {more:List aY} {AM:Option Addr} {cm B n:Nat} {e:Ex} {cs:List Value} (P:fJ w w.heap.size AM more) (t:aQ w B e cs) (u:B<=w.heap.size) (Y:n<N.length) :
  CS 176 #[aE (some ⟨g,0,none⟩),.agg cs.toArray,ax ay n,aD AM more.length cm] w (ax ay (E5 N e n more)):=by
 have HX:=qh t;have J:=t;obtain⟨-,-,-,-,-,-,-⟩:=J;rename_i o j k l cs;obtain⟨wb,b⟩:=aH ((((w.alloc (aL #[aE (some ⟨g,0,none⟩)] 153 (0,0))).alloc (.cells (BC e o j k e.ar.length l) 67 (0,0))).alloc (aL #[ax ay n] 3 (0,0))).alloc (aL #[aD AM more.length cm] 40 (0,0)));have d:EG w wb:=b▸((((Below.refl w.heap.size w).alloc (aR _) _).alloc (by simp) _).alloc (by simp;omega) _).alloc (by simp;omega) _;have D:wb.heap.size=w.heap.size+4:=by rw[b];simp
 have E:ag wb w.heap.size 153 #[aE (some ⟨g,0,none⟩)]:=b▸(((ag.new w _ _).alloc _).alloc _).alloc _;have I:ag wb (w.heap.size+1) 67 (BC e o j k e.ar.length l):=by
  have:=(((ag.new (w.alloc (aL #[aE (some ⟨g,0,none⟩)] 153 (0,0))) 67 (BC e o j k e.ar.length l)).alloc (aL #[ax ay n] 3 (0,0))).alloc (aL #[aD AM more.length cm] 40 (0,0)));rw[b];simpa using this
 have A:ag wb (w.heap.size+1+1) 3 #[ax ay n]:=by
  have:=((ag.new ((w.alloc (aL #[aE (some ⟨g,0,none⟩)] 153 (0,0))).alloc (.cells (BC e o j k e.ar.length l) 67 (0,0))) 3 #[ax ay n]).alloc (aL #[aD AM more.length cm] 40 (0,0)));rw[b];simpa using this
 have O:ag wb (w.heap.size+1+1+1) 40 #[aD AM more.length cm]:=by
  have:=ag.new (((w.alloc (aL #[aE (some ⟨g,0,none⟩)] 153 (0,0))).alloc (.cells (BC e o j k e.ar.length l) 67 (0,0))).alloc (aL #[ax ay n] 3 (0,0))) 40 #[aD AM more.length cm];rw[b];simpa using this
 have WA:=qh (show ahg wb B0 H U T V g w.heap.size (w.heap.size+1+1+1) (w.heap.size+1+1) x f N K more AM cm n from
  ⟨h.keep d,Below.cell_of d y,E.cell 0,O.cell 0,A.cell 0,au.Qe (λ _ _ h=>h.up d.size) (P.keep d) d.size,Y,hN⟩)
 obtain⟨W2,c⟩:=aH ((wb.alloc (aL #[ax ay 0] 28 (0,0))).alloc (aL #[ax ay 0] 28 (0,0)));have i:EG wb W2:=c▸((Below.refl wb.heap.size wb).alloc (aR _) _).alloc (by simp) _;have ab:W2.heap.size=wb.heap.size+2:=by rw[c];simp
 have F:=qh (show SX wb (0,0) W2 from ⟨i,c▸(ag.new wb _ _).alloc _,by have:=ag.new (wb.alloc (aL #[ax ay 0] 28 (0,0))) 28 #[ax ay 0];rw[c];simpa using this⟩);have m:B<=wb.heap.size:=aZ u d.size;have q:∀ (a:Array Value) (W:World),(callFunc 214 a).run Tryz.prog W = .ok (.enter 214 a) W:=λ a W=>by simp[callFunc,go_sem,Tryz.func214,Tryz.f214]
 have Q:=qh (show Calls Tryz.prog 213 #[.agg (BC e o j k e.ar.length l),.func (.func 214) #[] #[aE (some ⟨w.heap.size,0,none⟩),aE (some ⟨w.heap.size+1+1+1,0,none⟩),aE (some ⟨wb.heap.size,0,none⟩),aE (some ⟨w.heap.size+1+1,0,none⟩),aE (some ⟨wb.heap.size+1,0,none⟩)]] W2 _ from
  Yf 214 #[aE (some ⟨w.heap.size,0,none⟩),aE (some ⟨w.heap.size+1+1+1,0,none⟩),aE (some ⟨wb.heap.size,0,none⟩),aE (some ⟨w.heap.size+1+1,0,none⟩),aE (some ⟨wb.heap.size+1,0,none⟩)] q B wb.heap.size m (SX wb) (Dj N n more) (λ _ _ _ h _ d=>h.later d)
   (λ s e cs w t u hs=>Qw WA.o s e cs w (t.up m) u hs) e (0,0) _ W2 (HX.o.keep ((d.mono u).trans (i.mono m))) (by omega) F.o)
 have z:=qh (E5.eq_def N e n more);obtain⟨S,R⟩:=af (e.pre.foldl (Dj N n more) (0,0));rw[R] at Q z;clear R q;have M:=qh (I.below i (by omega));have L:=d.trans (i.mono d.size);clear D;show Calls Tryz.prog 176 #[aE (some ⟨g,0,none⟩),.agg (BC e o j k e.ar.length l),ax ay n,aD AM more.length cm] w _;go_enter Tryz.func176,Tryz.ntmps176;go_upto_region 1 with (fail);rw[<- b];clear b;go_upto_region 2 with (fail);rw[<- c];clear c;obtain⟨Z,iL,iM,iQ,iR,iT,iU,iC⟩:=ag.c8 M.o;go_upto_region 3 with (go_at_call 213;(with_reducible refine Q.o.mono ?_);rintro e1 w3 ⟨rfl,p,v⟩);have r:=L.trans (v.b.mono d.size);have c9:=p.2.1.cell 0;have X:=p.2.2.cell 0;clear Z iL iM iQ iR iT iU iC;by_cases h0:S.1=0
 .have G:=qh (z.o.trans (if_neg (λ h=>h h0)));obtain⟨g0,C⟩:=jf h0;clear h0;go_wp2;go_ret;exact⟨ai G.o.symm,r⟩
 .have G:=qh (z.o.trans (if_pos h0));obtain⟨g0,C⟩:=gp h0;clear h0;go_wp2;go_ret;exact⟨ai G.o.symm,r⟩
end Go.Proofs.YtcnagconagpkcaaGreatDoor
namespace Go.Proofs.YtcnagconagpkcaaGreatDoor
open Go.RowKit
attribute [local go_sem ↓] Go.wp_at_zero Go.wp_at_succ
theorem Qx (a:Ex) (G:fD 212 a) (P:a.text.length<=1000000000) (B:Nat) (cs:List Value) (w:World) (s:aQ w B a cs) (F:B<=w.heap.size) (e:Tab w) (I:Mx w) :
  CS 242 #[.agg cs.toArray] w (aA (tx ((if a.k=1/\a.v.k=2/\0<=a.v.n then [45,40] ++ a.text ++ [41] else [45] ++ rW (decide (iE a<7)) a.text)))):=by
 have O:=qh s;obtain⟨R,E⟩:=af ((if a.k=1/\a.v.k=2/\0<=a.v.n then [45,40] ++ a.text ++ [41] else [45] ++ rW (decide (iE a<7)) a.text));have u:=qh E;rw[E];clear E;obtain⟨t,g⟩:=af (tx a.text);obtain⟨tp,c⟩:=af (tx (rW (decide (iE a<7)) a.text));have K:=yM (decide (iE a<7)) a.text;have T:t.size<=2000000000:=by rw[<- g,lK];omega
 have U:tp.size<=2000000000:=by rw[<- c,lK];omega
 have L:=qh (λ w' (f:EG w w') cs' (i:aQ w' B a cs')=>G B cs' w' i (aZ F f.size) (aF e f) (I.below f));have HW:=qh (λ w' (f:EG w w') cs' (i:aQ w' B a cs')=>sJ a 7 G P B cs' w' i (aZ F f.size) (aF e f) (I.below f));simp only[g] at L;simp only[c] at HW;obtain⟨Q,V,S,X,s,N,M⟩:=s;rename_i x r q D cs;have m:=qh (λ w' (f:EG w w')=>O.o.keep (f.mono F));clear s N M G e I K;show Calls Tryz.prog 242 #[.agg (BC a x r q a.ar.length D)] w _;go_enter Tryz.func242,Tryz.ntmps242;go_upto_region 1 with (fail);obtain⟨W,l⟩:=aH ((w.alloc (.cells (BC a x r q a.ar.length D) 67 (0,0))));have b:EG w W:=by rw[l];exact ((Below.refl _ w).alloc (aR _) _)
 have B0:ag W (w.heap.size) 67 (BC a x r q a.ar.length D):=by
  rw[l];have:=ag.new w 67 (BC a x r q a.ar.length D);exact this
 have J:W.heap.size=w.heap.size+1:=by rw[l];simp
 rw[<- l];obtain⟨n,z,y,v,A,o,C,p⟩:=ag.c8 B0;clear l J B0;by_cases d1:a.k=1
 .have b1:(a.k == 1)=true:=by simp[d1]
  by_cases d2:a.v.k=2
  .have b2:(a.v.k == 2)=true:=by simp[d2]
   by_cases d3:0<=a.v.n
   .have j:=qh (show tx R=⟨#[45,40]⟩ ++ t ++ ⟨#[41]⟩ by rw[<- u.o,if_pos ⟨d1,d2,d3⟩,<- g,<- iP,<- iP];rfl);clear g d1 d2;go_wp2_with fail;refine (L.o W b _ (m.o W b)).mono ?_;rintro k H ⟨rfl,d⟩;clear n z y v A o C p;go_wp2_with fail;go_ret;exact⟨by rw[j.o];try rfl,b.trans (d.mono b.size)⟩
   .have j:=qh (show tx R=⟨#[45]⟩ ++ tp by rw[<- u.o,if_neg (λ h=>d3 h.2.2),<- c,<- iP];rfl);clear c d1 d2;go_wp2_with fail;refine (HW.o W b _ (m.o W b)).mono ?_;rintro k H ⟨rfl,d⟩;clear n z y v A o C p;go_wp2_with fail;go_ret;exact⟨by rw[j.o];try rfl,b.trans (d.mono b.size)⟩
  .have b2:(a.v.k == 2)=false:=by simp[d2]
   have j:=qh (show tx R=⟨#[45]⟩ ++ tp by rw[<- u.o,if_neg (λ h=>d2 h.2.1),<- c,<- iP];rfl);clear c d1 d2;go_wp2_with fail;refine (HW.o W b _ (m.o W b)).mono ?_;rintro k H ⟨rfl,d⟩;clear n z y v A o C p;go_wp2_with fail;go_ret;exact⟨by rw[j.o];try rfl,b.trans (d.mono b.size)⟩
 .have b1:(a.k == 1)=false:=by simp[d1]
  have j:=qh (show tx R=⟨#[45]⟩ ++ tp by rw[<- u.o,if_neg (λ h=>d1 h.1),<- c,<- iP];rfl);clear c d1;go_wp2_with fail;refine (HW.o W b _ (m.o W b)).mono ?_;rintro k H ⟨rfl,d⟩;clear n z y v A o C p;go_wp2_with fail;go_ret;exact⟨by rw[j.o];try rfl,b.trans (d.mono b.size)⟩
def wJ:List ByteArray:=JI.map tx
theorem yu (w:World):Calls Tryz.prog 237 #[] w λ e w'=>∃ ad,e = .returned (aD (some ad) 7 7)/\dB w' w'.heap.size (some ad) wJ/\EG w w':=by
 go_enter Tryz.func237,Tryz.ntmps237;go_wp2_with fail;go_ret;refine⟨_,rfl,⟨rfl,λ _=>⟨_,rfl,by simp,λ j u a=>?_⟩⟩,(Below.refl _ w).alloc (aR _) _⟩;have e:(⟨w.heap.size,0,none⟩:Addr).add j=⟨w.heap.size,j,none⟩:=by unfold Addr.add;split <;> simp_all
 rw[e,(ag.new w 9 #[aA ⟨#[]⟩,aA ⟨#[115,117,109]⟩,aA ⟨#[99,111,117,110,116]⟩,aA ⟨#[97,110,121]⟩,aA ⟨#[97,108,108]⟩,aA ⟨#[108,101,97,115,116]⟩,aA ⟨#[109,111,115,116]⟩]).cell j];rw[<- a];have b:(iZ wJ).toArray = #[aA ⟨#[]⟩,aA ⟨#[115,117,109]⟩,aA ⟨#[99,111,117,110,116]⟩,aA ⟨#[97,110,121]⟩,aA ⟨#[97,108,108]⟩,aA ⟨#[108,101,97,115,116]⟩,aA ⟨#[109,111,115,116]⟩]:=by kernel_rfl
 rw[<- b];simp
end Go.Proofs.YtcnagconagpkcaaGreatDoor
