/- Lemmas. -/
import Derived.Test.YtcnagconagpkcaaGreatDoorZ24
import Derived.Shelf.SlicesE.Clone
open Go.Value renaming int->ao, string->aq, slice->av, pointer->aw, bool->ax
open Go.IntKind renaming i64->ap
open Go.Ending renaming returned->ay
open And renaming intro->aD
open Nat renaming le_trans->aE, le_refl->aL, zero_le->a8, lt_of_lt_of_le->bd, le_of_eq->be, eq_zero_or_pos->bf
open List renaming mem_cons->aM, mem_or_eq_of_mem_set->aR, getElem_mem->a9, take_length->ba, eq_nil_of_length_eq_zero->bb, length_append->bc, length_cons->bg, drop_append_of_le_length->bh, not_mem_nil->bi, getElem?_set_ne->bj
namespace Go.Proofs.YtcnagconagpkcaaGreatDoor
open Go.RowKit
attribute [local go_sem ↓] Go.wp_at_zero Go.wp_at_succ
set_option maxHeartbeats 4000000
set_option maxRecDepth 100000
def zT (N:List aj):Prop:=∀ d∈N,(∀ e∈d.it.iff,e.parts<=1000000)/\(∀ e∈d.it.cnt,e.parts<=1000000)/\(∀ e∈d.it.cmp,e.parts<=1000000)/\(∀ e∈d.it.ans.only,e.parts<=1000000)/\∀ r∈d.it.ans.ch,r.must.parts<=1000000
def BL (f:bC) (x:nM) (e:Ending) (w':World):Prop:=(eu f≠0/\e = ay (.tuple #[aw none,ao ap (eu f)])) \/
 (eu f=0/\∃ B0 gb m1 m2 m3 A c,e = ay (.tuple #[aw (some ⟨gb,0,none⟩),ao ap 0])/\bF w' B0 gb m1 m2 m3 {x with AN:=A,cn:=c} f (aK f) (ku f).2)
theorem mf.up {w:World} {B B':Nat} {f:bC} {x:nM} (h:mf w B f x) (a:B<=B'):mf w B' f x:=
 ⟨h.nm,h.la.up a,h.ls.QN (λ _ _ h=>h.up a) a,h.li,h.it.QN (λ _ _ h=>h.up a) a,h.ii⟩
theorem Sz {N:List aj} {L:List fD} {a k:Nat} {K:bu} (h:k<N.length):sJ N L a (N.length+1 - k) k K=if (oP N L K a k).1≠0 then oP N L K a k else sJ N L a (N.length+1 - (k+1)) (k+1) (oP N L K a k).2:=by
 obtain⟨m,b⟩:∃ m,N.length+1 - k=m+1:=⟨N.length - k,by omega⟩;rw[b,show N.length+1 - (k+1)=m by omega,sJ,if_pos h]
theorem Wv {N:List aj} {L:List fD} {a:Nat} {K:bu}:sJ N L a (N.length+1 - N.length) N.length K=(0,K):=by
 rw[show N.length+1 - N.length=0+1 by omega,sJ,if_neg (by omega)]
theorem ame {f:bC} (h:qE f≠0):eu f=qE f:=by unfold eu ku;rw[if_pos h]
theorem amf {f:bC} (a:qE f=0) (h:ou f≠0):eu f=ou f:=by unfold eu ku;rw[if_neg (λ q=>q a),if_pos h]
theorem amg {f:bC} (b:qE f=0) (a:ou f=0) (h:jZ (aK f) f.lists≠0):eu f=jZ (aK f) f.lists:=by unfold eu ku;rw[if_neg (λ q=>q b),if_neg (λ q=>q a),if_pos h]
theorem amh {f:bC} (c:qE f=0) (a:ou f=0) (b:jZ (aK f) f.lists=0):ku f=sJ (aK f) f.lists f.bD.length ((aK f).length+1 - 0) 0 []:=by unfold ku;rw[if_neg (λ q=>q c),if_neg (λ q=>q a),if_neg (λ q=>q b)];rfl
theorem Ih {w:World} {f:bC} {x:nM} (hf:mf w w.heap.size f x) (Y:zT (aK f)) (B:Tab w) (S:Mx w) :
  Calls Tryz.prog 34 #[.agg (Bd f x)] w λ e w'=>BL f x e w'/\IY w w':=by
 obtain⟨W1,V,n,L⟩:=box w 26 (Bd f x);have q0:=L.cell 0;have q1:=L.cell 1;have q2:=L.cell 2;have q3:=L.cell 3;have q4:=L.cell 4;have HF:=qh (aD hf (aD Y (λ w' (p:IY w w')=>aD (aA B p) (S.below p))));have KO:=qh (open_any (w:=W1) (f:=f) (x:=x) ((hf.keep (n)).up n.size));clear hf Y B S;go_enter Tryz.func34,Tryz.ntmps34;go_upto_region 1 with (fail);rw[<- V];clear V;go_upto_region 3 with (go_at_call 70;(with_reducible refine KO.o.mono ?_);rintro e1 w1 ⟨⟨y,m1,m2,m3,A,c,rfl,T,I⟩,uM⟩);obtain⟨s,X⟩:=af (w1.heap.size);obtain⟨W3,o⟩:∃ W',W'=(w1.alloc (.cells #[aw (some ⟨y,0,none⟩)] 156 (0,0))).alloc (.cells #[.func (.func 71) #[aw (some ⟨w1.heap.size,0,none⟩)] #[],.func (.func 72) #[aw (some ⟨w1.heap.size,0,none⟩)] #[],.func (.func 73) #[aw (some ⟨w1.heap.size,0,none⟩)] #[]] 122 (0,0)):=⟨_,rfl⟩;have t:IY w1 W3:=o▸((Below.refl _ w1).alloc (aL _) _).alloc (by simp) _;have O:ah W3 w1.heap.size 156 #[aw (some ⟨y,0,none⟩)]:=o▸(ah.new w1 _ _).alloc _;have BR:ah W3 (w1.heap.size+1) 122 #[.func (.func 71) #[aw (some ⟨w1.heap.size,0,none⟩)] #[],.func (.func 72) #[aw (some ⟨w1.heap.size,0,none⟩)] #[],.func (.func 73) #[aw (some ⟨w1.heap.size,0,none⟩)] #[]]:=by
  have h:=ah.new (w1.alloc (.cells #[aw (some ⟨y,0,none⟩)] 156 (0,0))) 122 #[.func (.func 71) #[aw (some ⟨w1.heap.size,0,none⟩)] #[],.func (.func 72) #[aw (some ⟨w1.heap.size,0,none⟩)] #[],.func (.func 73) #[aw (some ⟨w1.heap.size,0,none⟩)] #[]];rw[o];simpa using h
 rw[<- o];have bQ:=n.trans (uM.mono n.size);have z:=bQ.trans (t.mono bQ.size);have F:=I.choose_spec.1.lt;rw[X] at O BR F ⊢;have kX:=qh (show ∀ w',IY W3 w'->bF w' W1.heap.size y m1 m2 m3 {x with AN:=A,cn:=c} f (aK f) []/\w'.cell? ⟨s,0,none⟩=some (aw (some ⟨y,0,none⟩))/\s<w'.heap.size/\Tab w'/\Mx w'/\BH w' m3 [] 0/\(w'.cell? ⟨s+1,0,none⟩=some (.func (.func 71) #[aw (some ⟨s,0,none⟩)] #[])/\w'.cell? ⟨s+1,1,none⟩=some (.func (.func 72) #[aw (some ⟨s,0,none⟩)] #[])/\w'.cell? ⟨s+1,2,none⟩=some (.func (.func 73) #[aw (some ⟨s,0,none⟩)] #[]))/\IY w w' from λ w' Z=>by
  have h3:=t.trans (Z.mono t.size);have hw:=z.trans (Z.mono z.size);have B2:=BR.below Z BR.lt;exact⟨T.keep h3,(O.below Z O.lt).cell 0,(O.below Z O.lt).lt,(HF.o.2.2 w' hw).1,(HF.o.2.2 w' hw).2,I.keep h3,⟨B2.cell 0,B2.cell 1,B2.cell 2⟩,hw⟩)
 have M:=qh (aD F (aD n.size (Ya f)));clear o X t O BR q0 q1 q2 q3 q4 T I uM KO L F;go_loopw [22] (λ i wr=>∃ k:Nat,i = ao ap k/\k<=3/\Hid ((0<k->qE f=0)/\(1<k->ou f=0)/\(2<k->jZ (aK f) f.lists=0))/\IY W3 wr) (λ i _=>4 - (intOf i).toNat)
 case atStart=>exact⟨0,rfl,by omega,qh ⟨λ h=>absurd h (by decide),λ h=>absurd h (by decide),λ h=>absurd h (by decide)⟩,Below.refl _ _⟩
 case round =>
  obtain⟨k,rfl,hk,J,p⟩:=hrel;obtain⟨b1,b2,b3,b6,b7,b9,⟨t0,t1,t2⟩,b8⟩:=kX.o wr p;obtain rfl | rfl | rfl | rfl:k=0\/k=1\/k=2\/k=3:=by omega
  .obtain⟨r,b⟩:=af (qE f);have v:=qh (b▸Yo b1 b2 b3);by_cases h0:r=0
   case neg =>
    have m:=qh (show eu f=r from (ame (b▸h0)).trans b);obtain⟨D,l⟩:=fU h0;have C:=qh h0;clear b h0;go_wp2_with (go_at_call 71;(with_reducible refine v.o.mono ?_);rintro R Q ⟨rfl,a⟩);go_ret2;exact⟨.inl ⟨by rw[m.o];exact C.o,by rw[m.o];rfl⟩,b8.trans (a.mono b8.size)⟩
   have d:=qh (show qE f=0 from b.trans h0);obtain⟨D,l⟩:=jk h0;clear b h0;go_wp2_with (go_at_call 71;(with_reducible refine v.o.mono ?_);rintro R Q ⟨rfl,a⟩);go_roundw
   case rel=>exact⟨1,by first | rfl | go_num,by omega,⟨λ _=>d.o,λ h=>absurd h (by decide),λ h=>absurd h (by decide)⟩ |> Lib.hid,p.trans (a.mono p.size)⟩
   case measure=>simp[intOf]
  .obtain⟨r,b⟩:=af (ou f);have v:=qh (b▸Sm b1 b2 b3 M.o.2.2 b6 b7);by_cases h0:r=0
   case neg =>
    have m:=qh (show eu f=r from (amf (J.o.1 (by decide)) (b▸h0)).trans b);obtain⟨D,l⟩:=fU h0;have C:=qh h0;clear b h0;go_wp2_with (go_at_call 72;(with_reducible refine v.o.mono ?_);rintro R Q ⟨rfl,a⟩);go_ret2;exact⟨.inl ⟨by rw[m.o];exact C.o,by rw[m.o];rfl⟩,b8.trans (a.mono b8.size)⟩
   have d:=qh (show qE f=0/\ou f=0 from ⟨J.o.1 (by decide),b.trans h0⟩);obtain⟨D,l⟩:=jk h0;clear b h0;go_wp2_with (go_at_call 72;(with_reducible refine v.o.mono ?_);rintro R Q ⟨rfl,a⟩);go_roundw
   case rel=>exact⟨2,by first | rfl | go_num,by omega,⟨λ _=>d.o.1,λ _=>d.o.2,λ h=>absurd h (by decide)⟩ |> Lib.hid,p.trans (a.mono p.size)⟩
   case measure=>simp[intOf]
  .obtain⟨r,b⟩:=af (jZ (aK f) f.lists);have v:=qh (b▸QY b1 b2 b3 M.o.2.2);by_cases h0:r=0
   case neg =>
    have m:=qh (show eu f=r from (amg (J.o.1 (by decide)) (J.o.2.1 (by decide)) (b▸h0)).trans b);obtain⟨D,l⟩:=fU h0;have C:=qh h0;clear b h0;go_wp2_with (go_at_call 73;(with_reducible refine v.o.mono ?_);rintro R Q ⟨rfl,a⟩);go_ret2;exact⟨.inl ⟨by rw[m.o];exact C.o,by rw[m.o];rfl⟩,b8.trans (a.mono b8.size)⟩
   have d:=qh (show qE f=0/\ou f=0/\jZ (aK f) f.lists=0 from ⟨J.o.1 (by decide),J.o.2.1 (by decide),b.trans h0⟩);obtain⟨D,l⟩:=jk h0;clear b h0;go_wp2_with (go_at_call 73;(with_reducible refine v.o.mono ?_);rintro R Q ⟨rfl,a⟩);go_roundw
   case rel=>exact⟨3,by first | rfl | go_num,by omega,⟨λ _=>d.o.1,λ _=>d.o.2.1,λ _=>d.o.2.2⟩ |> Lib.hid,p.trans (a.mono p.size)⟩
   case measure=>simp[intOf]
  obtain⟨z1,z2,z3⟩:=J.o;have HS:=qh (PY (z3 (by decide)));have HD:=qh (amh (z1 (by decide)) (z2 (by decide)) (z3 (by decide)));have c5:wr.cell? ⟨y,5,none⟩=some (av A (aK f).length c):=b1.blk.cell 5;have q:=qh (aD b1 (aD b9 b8));have ae:=b1.ne.2.2.1;have ad:=b9.choose_spec.1.lt;have wB:=b1.nodes.1;clear z1 z2 z3 b1 b9 b6 b7 t0 t1 t2;obtain⟨N,hN⟩:=af (aK f);rw[hN] at c5 wB;have d:=qh hN;clear hN;rw[show ((3:Nat):Int)=3 from rfl];go_wp2;clear c5;go_loopw [40] (λ i w5=>∃ (k:Nat) (K:bu),i = ao ap k/\k<=N.length/\Hid (ku f=sJ N f.lists f.bD.length (N.length+1 - k) k K)/\Hid (bF w5 W1.heap.size y m1 m2 m3 {x with AN:=A,cn:=c} f N K/\BH w5 m3 K k)/\Hid (wr.grownBy w5 (some m3))) (λ i _=>N.length+1 - (intOf i).toNat)
  case atStart=>exact⟨0,[],rfl,a8 _,d.o▸HD,d.o▸qh ⟨q.o.1,q.o.2.1⟩,qh (World.grownBy.refl _ _)⟩
  case round =>
   obtain⟨j,K,rfl,hj,HP,HK,HG⟩:=hrel;have ab:some s≠some m3:=λ e=>by injection e with e;have:=M.o.1;omega
   have U:=HG.o.cell b2 ab;have P:=HG.o.size;have u:=q.o.2.2.grown HG.o q.o.2.2.size (λ g e=>by injection e with e;have:=M.o.2.1;omega);by_cases hlt:j<N.length
   case neg =>
    obtain rfl:j=N.length:=by omega
    have m:=qh (HP.o.trans Wv);have HR:=qh HK.o.1;clear b2;go_wp2;go_ret2;exact⟨.inr ⟨by unfold eu;rw[m.o],W1.heap.size,y,m1,m2,m3,A,c,rfl,by rw[d.o,m.o];exact HR.o⟩,u⟩
   obtain⟨s1,s2,s3,s4,s5⟩:=HF.o.2.1 N[j] (by rw[d.o];exact a9 hlt);have E:=HF.o.2.2 _ u;have aa:iQ N:=d.o▸M.o.2.2;have W:MK N:=d.o▸HS.o;have KM:=qh (PV HK.o.1 U (bd b3 P) aa hlt (by omega) HK.o.2 s1 s2 s3 s4 s5 (W.cm _ (a9 hlt)) E.1 E.2);have G:=qh (HP.o.trans (Sz hlt));obtain⟨r,b⟩:=af (oP N f.lists K f.bD.length j);rw[b] at KM G;have aW:=qh hlt;clear s1 s2 s3 s4 s5 E aa W b U b2;by_cases h0:r.1=0
   case neg =>
    have m:=qh (show eu f=r.1 by unfold eu;rw[G.o,if_pos h0]);have C:=qh h0;obtain⟨D,l⟩:=fU h0;clear h0;go_wp2_with (go_at_call 74;(with_reducible refine KM.o.mono ?_);rintro e6 w6 ⟨rfl,h6,-,H⟩);go_ret2;exact⟨.inl ⟨by rw[m.o];exact C.o,by rw[m.o];rfl⟩,u.grown H u.size (λ g e=>by injection e with e;have:=M.o.2.1;omega)⟩
   have JX:=qh (G.o.trans (if_neg (λ h=>h h0)));obtain⟨D,l⟩:=jk h0;clear h0;go_wp2_with (go_at_call 74;(with_reducible refine KM.o.mono ?_);rintro e6 w6 ⟨rfl,h6,ac,H⟩);go_roundw
   case rel=>exact⟨j+1,r.2,by go_num,aW.o,JX,qh ⟨h6,ac⟩,qh (mX HG.o H)⟩
   case measure =>
    have:=aW.o;simp[intOf];omega
set_option maxHeartbeats 4000000
set_option maxRecDepth 100000
theorem aao (i:Nat) (w:World):IE 68 (#[ao ap i] ++ #[]) w (ax true):=by
 show Calls Tryz.prog 68 #[ao ap i] w _;go_enter Tryz.func68,Tryz.ntmps68;go_wp2;go_ret;exact⟨rfl,Below.refl _ _⟩
theorem aap {α:Type} {T:TypeId} {k:Nat} {P:World->Nat->α->List Value->Prop} {w:World} {B B':Nat} {v:Value} {l:List α} (h:wC T k P w B v l) (e:B'<=B) (a:∀ d cs,P w B d cs->P w B' d cs):wC T k P w B' v l:=by
 obtain⟨cs,b,c⟩:=h;exact⟨cs,own_base b e,λ i f=>a _ _ (c i f)⟩
theorem aaq {w:World} {B0 k r n p:Nat} {x:nM} {f:bC} {N:List aj} {K:bu} (h:bF w B0 k r n p x f N K) :
  Calls Tryz.prog 33 #[aw (some ⟨k,0,none⟩)] w λ e w'=>(∃ v1 j,e = ay (.tuple #[v1,j])/\wC 51 3 vV w' w.heap.size v1 (di N K (λ _=>true) N.length)/\wC 184 2 xw w' w.heap.size j (bY N))/\IY w w':=by
 have l:∀ (a:Array Value) (W:World),(callFunc 68 a).run Tryz.prog W = .ok (.enter 68 a) W:=λ a W=>by simp[callFunc,go_sem,Tryz.func68,Tryz.f68]
 have v:=qh (JE h 68 #[] l (λ _=>true) (λ i w' _ _=>aao i w'));have q:=qh (λ w' (s:IY w w')=>JF (h.keep s));clear l;go_enter Tryz.func33,Tryz.ntmps33;go_wp2_with (first
  | (go_at_call 67;(with_reducible refine v.o.mono ?_);rintro y w1 ⟨⟨v1,rfl,t⟩,b⟩)
  | (go_at_call 69;(with_reducible refine (q.o _ b).mono ?_);rintro z B ⟨⟨j,rfl,m⟩,g⟩))
 go_ret2;exact⟨⟨v1,j,rfl,t.keep gZ g,aap m b.size (λ d cs ⟨A,c,e,u,o⟩=>⟨A,c,e,own_base u b.size,o⟩)⟩,b.trans (g.mono b.size)⟩
set_option maxHeartbeats 4000000
set_option maxRecDepth 100000
theorem J8 {w:World} {f:bC} {x:nM} (n:mf w w.heap.size f x) (j:zT (aK f)) (b:Tab w) (h:Mx w) :
  Calls Tryz.prog 22 #[.agg (Bd f x)] w λ e w'=>BL f x e w'/\IY w w':=by
 obtain⟨z,d,a,g⟩:=box w 26 (Bd f x);have C:=g.cell 0;have E:=g.cell 1;have D:=g.cell 2;have v:=g.cell 3;have B:=g.cell 4;have u:=qh (Ih ((n.keep a).up a.size) j (aA b a) (h.below a));clear n j b h;go_enter Tryz.func22,Tryz.ntmps22;go_upto_region 1 with (fail);rw[<- d];clear d;go_wp2_with (go_at_call 34;(with_reducible refine u.o.mono ?_);rintro y w1 ⟨q,o⟩;have m:=qh (a.trans (o.mono a.size));clear o;rcases q with ⟨k,rfl⟩ | ⟨k,B0,t,s,p,r,A,c,rfl,i⟩)
 .have l:=qh k;clear k;go_wp2;go_ret2;exact⟨.inl ⟨l.o,rfl⟩,m.o⟩
 .have l:=qh (aD k i);clear k i;go_wp2;go_ret2;exact⟨.inr ⟨l.o.1,B0,t,s,p,r,A,c,rfl,l.o.2⟩,m.o⟩
theorem SA {w:World} {f:bC} {x:nM} (m:mf w w.heap.size f x) (i:zT (aK f)) (b:Tab w) (h:Mx w) :
  IE 13 #[.agg (Bd f x)] w (ao ap (eu f)):=by
 obtain⟨u,d,a,g⟩:=box w 26 (Bd f x);have z:=g.cell 0;have E:=g.cell 1;have D:=g.cell 2;have r:=g.cell 3;have y:=g.cell 4;have q:=qh (Ih ((m.keep a).up a.size) i (aA b a) (h.below a));clear m i b h;go_enter Tryz.func13,Tryz.ntmps13;go_upto_region 1 with (fail);rw[<- d];clear d;go_wp2_with (go_at_call 34;(with_reducible refine q.o.mono ?_);rintro t w1 ⟨o,n⟩;have l:=qh (a.trans (n.mono a.size));clear n;rcases o with ⟨j,rfl⟩ | ⟨j,B0,C,B,s,v,A,c,rfl,k⟩)
 .clear j;go_wp2;go_ret;exact⟨rfl,l.o⟩
 .have p:=qh j;clear j k;go_wp2;go_ret;exact⟨by rw[p.o];rfl,l.o⟩
theorem s4 {w:World} {g:Nat} {T:TypeId} {c d b a:Value} (h:ah w g T #[c,d,b,a]):w.cell? ⟨g,0,none⟩=some c/\w.frozen? ⟨g,0,none⟩=false/\w.cell? ⟨g,1,none⟩=some d/\w.frozen? ⟨g,1,none⟩=false/\w.cell? ⟨g,2,none⟩=some b/\w.frozen? ⟨g,2,none⟩=false/\w.cell? ⟨g,3,none⟩=some a/\w.frozen? ⟨g,3,none⟩=false:=⟨h.cell 0,h.frozen 0,h.cell 1,h.frozen 1,h.cell 2,h.frozen 2,h.cell 3,h.frozen 3⟩
theorem aiK {f:Func} {s t:Tmp} {tmps:Array Value} {w a:World} {g b:Nat} {A z k r a0 a1 a2 a3 n:Value} {Q:Ending->World->Prop} (m:f.results = #[.cell s 45,.tmp t]) (y:tmps[s]?.getD undef = aw (some ⟨g,0,none⟩)) (x:tmps[t]?.getD undef=n) (B:ah a g 45 #[A,z,k,r]) (q:Below b w a) (d:b<=g) (h:∀ W,W=(((a.setCell ⟨g,0,none⟩ a0).setCell ⟨g,1,none⟩ a1).setCell ⟨g,2,none⟩ a2).setCell ⟨g,3,none⟩ a3->Below b w W->Q (ay (.tuple #[.agg #[a0,a1,a2,a3],n])) W) :
  bodyPost Tryz.prog f Q Exit.ret { tmps:=tmps,defers:=[] } ((((a.setCell ⟨g,0,none⟩ a0).setCell ⟨g,1,none⟩ a1).setCell ⟨g,2,none⟩ a2).setCell ⟨g,3,none⟩ a3):=by
 obtain⟨W,e⟩:=aC ((((a.setCell ⟨g,0,none⟩ a0).setCell ⟨g,1,none⟩ a1).setCell ⟨g,2,none⟩ a2).setCell ⟨g,3,none⟩ a3);have c:ah W g 45 #[a0,a1,a2,a3]:=e▸((((B.eG 0 _).eG 1 _).eG 2 _).eG 3 _);have l:Below b w W:=e▸((((q.setCell (p:=⟨g,0,none⟩) d _).setCell (p:=⟨g,1,none⟩) d _).setCell (p:=⟨g,2,none⟩) d _).setCell (p:=⟨g,3,none⟩) d _);have i:=h W e l;rw[<- e];have o:W.cell? ⟨g,0,none⟩=some a0:=c.cell 0;have C:W.cell? ⟨g,1,none⟩=some a1:=c.cell 1;have u:W.cell? ⟨g,2,none⟩=some a2:=c.cell 2;have j:W.cell? ⟨g,3,none⟩=some a3:=c.cell 3;exact bodyPost_ret (v:=.tuple #[.agg #[a0,a1,a2,a3],n]) (by simp[results,m,go_sem,y,x,o,C,u,j]) rfl i
theorem wC.acV {w:World} {B:Nat} {v:Value} {l:List aG} (h:wC 51 3 vV w B v l) {p:Addr} (a:p.block<B) (u:Value):wC 51 3 vV (w.setCell p u) B v l:=by
 obtain⟨cs,b,d⟩:=h;refine⟨cs,oQ b a u,λ i g=>?_⟩;obtain⟨A,c,e,f,j⟩:=d i g;exact⟨A,c,e,oQ f a u,j⟩
theorem wC.acW {w:World} {B:Nat} {v:Value} {l:List aQ} (h:wC 184 2 xw w B v l) {p:Addr} (a:p.block<B) (u:Value):wC 184 2 xw (w.setCell p u) B v l:=by
 obtain⟨cs,b,d⟩:=h;refine⟨cs,oQ b a u,λ i g=>?_⟩;obtain⟨A,c,e,f,j⟩:=d i g;exact⟨A,c,e,oQ f a u,j⟩
def aar (f:bC) (e:Ending) (w':World):Prop:=(eu f≠0/\e = ay (.tuple #[.agg #[av none 0 0,av none 0 0,av none 0 0,av none 0 0],ao ap (eu f)])) \/
 (eu f=0/\∃ AC cc AN cn,e = ay (.tuple #[.agg #[av AC (di (aK f) (ku f).2 (λ _=>true) (aK f).length).length cc,av AN (bY (aK f)).length cn,av none 0 0,av none 0 0],ao ap 0])/\bU w' w'.heap.size AC (di (aK f) (ku f).2 (λ _=>true) (aK f).length)/\dX w' w'.heap.size AN (bY (aK f))/\(di (aK f) (ku f).2 (λ _=>true) (aK f).length).length<=cc/\(bY (aK f)).length<=cn)
theorem Wx {w:World} {f:bC} {x:nM} (U:mf w w.heap.size f x) (u:zT (aK f)) (j:Tab w) (t:Mx w) :
  Calls Tryz.prog 12 #[.agg (Bd f x)] w λ e w'=>aar f e w'/\IY w w':=by
 obtain⟨v,l,s,r⟩:=box w 26 (Bd f x);have B:=r.cell 0;have T:=r.cell 1;have J:=r.cell 2;have F:=r.cell 3;have z:=r.cell 4;have d:=az v (.cells #[av none 0 0,av none 0 0,av none 0 0,av none 0 0] 45 (0,0));have h:=ah.new v 45 #[av none 0 0,av none 0 0,av none 0 0,av none 0 0];obtain⟨W2,m⟩:∃ W',W'=v.alloc (.cells #[av none 0 0,av none 0 0,av none 0 0,av none 0 0] 45 (0,0)):=⟨_,rfl⟩;rw[<- m] at d h;have k:=s.trans (d.mono s.size);rw[show v.heap.size=w.heap.size+1 by rw[l];simp] at h;have KC:=qh (J8 ((U.keep k).up k.size) u (aA j k) (t.below k));have B:=Below.cell_of d B;have T:=Below.cell_of d T;have J:=Below.cell_of d J;have F:=Below.cell_of d F;have z:=Below.cell_of d z;clear U u j t;go_enter Tryz.func12,Tryz.ntmps12;go_upto_region 1 with (fail);rw[<- l,<- m];clear l m;have ab:=qh k;go_upto_region 2 with (go_at_call 22;(with_reducible refine KC.o.mono ?_);rintro e1 w1 ⟨hr,Q⟩;have h:=h.below Q h.lt;have G:=qh (k.trans (Q.mono k.size));clear Q B T J F z;rcases hr with ⟨o,rfl⟩ | ⟨o,B0,gb,m1,m2,m3,A,c,rfl,i⟩)
 .obtain⟨g0,aa⟩:=fU o;have D:=qh o;have q:=qh h;obtain⟨Y,f0,s1,f1,Z,f2,s3,f3⟩:=s4 h;clear o h;go_wp2;refine aiK rfl rfl rfl q.o G.o (by omega) λ W _ P=>⟨.inl ⟨D.o,rfl⟩,P⟩
 .have D:=qh (aD o i);have KL:=qh (aaq i);have q:=qh h;have a:=h.lt;have ac:=zu (N:=aK f) (K:=(ku f).2) (keep:=λ _=>true) (aK f).length;have I:=zx (N:=aK f) (aK f).length;rw[ba] at I;have wB:=i.nodes.1;clear o i h;go_upto_region 5 with (go_at_call 33;(with_reducible refine KL.o.mono ?_);rintro e2 w2 ⟨⟨v1,v2,rfl,b,g⟩,n⟩);have q:=qh (q.o.below n a);obtain⟨Y,f0,s1,f1,Z,f2,s3,f3⟩:=s4 q.o;obtain⟨L,O,X⟩:=b;obtain⟨H,R,rfl⟩:=iU O;obtain⟨E,S,V⟩:=g;obtain⟨M,y,rfl⟩:=iU S;have HV:=qh (aD (show wC 51 3 vV _ _ _ _ from ⟨L,O,X⟩) (show wC 184 2 xw _ _ _ _ from ⟨E,S,V⟩));have zl:=qh (G.o.trans (n.mono G.o.size));clear O X S V n;go_wp2;refine aiK rfl rfl rfl q.o zl.o (by omega) λ W C P=>⟨.inr ⟨D.o.1,?_⟩,P⟩;obtain⟨b,g⟩:=HV.o;have b:=(((b.acV (p:=⟨w.heap.size+1,0,none⟩) a (av H (di (aK f) (ku f).2 (λ _=>true) (aK f).length).length R)).acV (p:=⟨w.heap.size+1,1,none⟩) a (av M (bY (aK f)).length y)).acV (p:=⟨w.heap.size+1,2,none⟩) a (av none 0 0)).acV (p:=⟨w.heap.size+1,3,none⟩) a (av none 0 0);have g:=(((g.acW (p:=⟨w.heap.size+1,0,none⟩) a (av H (di (aK f) (ku f).2 (λ _=>true) (aK f).length).length R)).acW (p:=⟨w.heap.size+1,1,none⟩) a (av M (bY (aK f)).length y)).acW (p:=⟨w.heap.size+1,2,none⟩) a (av none 0 0)).acW (p:=⟨w.heap.size+1,3,none⟩) a (av none 0 0);rw[<- C] at b g;exact⟨H,R,M,y,rfl,b.cells (by unfold maxLen;omega),g.vW (by unfold maxLen;omega),oZ b.choose_spec.1,oZ g.choose_spec.1⟩
set_option maxHeartbeats 4000000
set_option maxRecDepth 100000
structure bz (g:Nat) (w w':World):Prop where
 os:w'.os=w.os
 tape:w'.tape=w.tape
 output:w'.output=w.output
 size:w'.heap.size=w.heap.size
 far:∀ k,k≠g->w'.heap[k]?=w.heap[k]?
theorem bz.refl (g:Nat) (w:World):bz g w w:=⟨rfl,rfl,rfl,rfl,λ _ _=>rfl⟩
theorem bz.set {g:Nat} {w w':World} (h:bz g w w') (i:Nat) (u:Value):bz g w (w'.setCell ⟨g,i,none⟩ u):=
 ⟨h.os,h.tape,h.output,by simp[World.setCell,h.size],λ k a=>(Below.heap_setCell w' ⟨g,i,none⟩ u k a).trans (h.far k a)⟩
theorem bz.below {g b:Nat} {w w':World} (h:bz g w w') (c:b<=g):Below b w w':=⟨h.os,h.tape,h.output,be h.size.symm,λ k a=>h.far k (by omega)⟩
theorem bz.stay {g:Nat} {w w':World} {p:Nat->Prop} (h:bz g w w') (b:∀ k,p k->k≠g):dN p w w':=⟨be h.size.symm,λ k a _=>h.far k (b k a)⟩
theorem bz.blk {g k:Nat} {w w':World} {T:TypeId} {cs:Array Value} (h:bz g w w') (b:ah w k T cs) (a:k≠g):ah w' k T cs:=(h.far k a).trans b
theorem bz.own {g B size n:Nat} {w w':World} {e:TypeId} {v:Value} {xs:List Value} (h:bz g w w') (c:w.ownsRow B e size v n xs) (j:g<B):w'.ownsRow B e size v n xs:=by
 refine⟨c.1,c.2.imp id ?_⟩;rintro ⟨b,a,cur,f,d,i,e3⟩;exact⟨b,a,cur,f,d,(h.far b (by omega)).trans i,e3⟩
theorem afX {d:Func} {s:Tmp} {tmps:Array Value} {a:World} {g:Nat} {a0 a1 a2 a3 q p j m:Value} {Q:Ending->World->Prop} (k:d.results = #[.cell s 65]) (o:tmps[s]?.getD undef = aw (some ⟨g,0,none⟩)) (B:ah a g 65 #[q,p,j,m]) (h:∀ W,bz g a W->Q (ay (.agg #[a0,a1,a2,a3])) W) :
  bodyPost Tryz.prog d Q Exit.ret { tmps:=tmps,defers:=[] } ((((a.setCell ⟨g,0,none⟩ a0).setCell ⟨g,1,none⟩ a1).setCell ⟨g,2,none⟩ a2).setCell ⟨g,3,none⟩ a3):=by
 obtain⟨W,e,b,c⟩:∃ W,W=((((a.setCell ⟨g,0,none⟩ a0).setCell ⟨g,1,none⟩ a1).setCell ⟨g,2,none⟩ a2).setCell ⟨g,3,none⟩ a3)/\ah W g 65 #[a0,a1,a2,a3]/\bz g a W:=⟨_,rfl,((((B.eG 0 a0).eG 1 a1).eG 2 a2).eG 3 a3),((((bz.refl g a).set 0 a0).set 1 a1).set 2 a2).set 3 a3⟩;have f:=h W c;rw[<- e];clear e B c h;have l:W.cell? ⟨g,0,none⟩=some a0:=b.cell 0;have r:W.cell? ⟨g,1,none⟩=some a1:=b.cell 1;have n:W.cell? ⟨g,2,none⟩=some a2:=b.cell 2;have i:W.cell? ⟨g,3,none⟩=some a3:=b.cell 3;exact bodyPost_ret (v:=.agg #[a0,a1,a2,a3]) (by simp[results,k,go_sem,o,l,r,n,i]) rfl f
theorem amk {d:Func} {s:Tmp} {tmps:Array Value} {b:World} {g:Nat} {a0 a1 a2 a3 a4 a5 a6 a7 A z j r p x t w:Value} {Q:Ending->World->Prop} (l:d.results = #[.cell s 67]) (y:tmps[s]?.getD undef = aw (some ⟨g,0,none⟩)) (B:ah b g 67 #[A,z,j,r,p,x,t,w]) (h:∀ W,bz g b W->Q (ay (.agg #[a0,a1,a2,a3,a4,a5,a6,a7])) W) :
  bodyPost Tryz.prog d Q Exit.ret { tmps:=tmps,defers:=[] } ((((((((b.setCell ⟨g,0,none⟩ a0).setCell ⟨g,1,none⟩ a1).setCell ⟨g,2,none⟩ a2).setCell ⟨g,3,none⟩ a3).setCell ⟨g,4,none⟩ a4).setCell ⟨g,5,none⟩ a5).setCell ⟨g,6,none⟩ a6).setCell ⟨g,7,none⟩ a7):=by
 obtain⟨W,e,a,c⟩:∃ W,W=((((((((b.setCell ⟨g,0,none⟩ a0).setCell ⟨g,1,none⟩ a1).setCell ⟨g,2,none⟩ a2).setCell ⟨g,3,none⟩ a3).setCell ⟨g,4,none⟩ a4).setCell ⟨g,5,none⟩ a5).setCell ⟨g,6,none⟩ a6).setCell ⟨g,7,none⟩ a7)/\ah W g 67 #[a0,a1,a2,a3,a4,a5,a6,a7]/\bz g b W:=⟨_,rfl,((((((((B.eG 0 a0).eG 1 a1).eG 2 a2).eG 3 a3).eG 4 a4).eG 5 a5).eG 6 a6).eG 7 a7),((((((((bz.refl g b).set 0 a0).set 1 a1).set 2 a2).set 3 a3).set 4 a4).set 5 a5).set 6 a6).set 7 a7⟩;have f:=h W c;rw[<- e];clear e B c h;have o:W.cell? ⟨g,0,none⟩=some a0:=a.cell 0;have C:W.cell? ⟨g,1,none⟩=some a1:=a.cell 1;have u:W.cell? ⟨g,2,none⟩=some a2:=a.cell 2;have i:W.cell? ⟨g,3,none⟩=some a3:=a.cell 3;have m:W.cell? ⟨g,4,none⟩=some a4:=a.cell 4;have q:W.cell? ⟨g,5,none⟩=some a5:=a.cell 5;have n:W.cell? ⟨g,6,none⟩=some a6:=a.cell 6;have k:W.cell? ⟨g,7,none⟩=some a7:=a.cell 7;exact bodyPost_ret (v:=.agg #[a0,a1,a2,a3,a4,a5,a6,a7]) (by simp[results,l,go_sem,y,o,C,u,i,m,q,n,k]) rfl f
theorem z8 {w:World} {g:Nat} {T:TypeId} {i j f b a e d c:Value} (h:ah w g T #[i,j,f,b,a,e,d,c]):w.cell? ⟨g,0,none⟩=some i/\w.frozen? ⟨g,0,none⟩=false/\w.cell? ⟨g,1,none⟩=some j/\w.frozen? ⟨g,1,none⟩=false/\w.cell? ⟨g,2,none⟩=some f/\w.frozen? ⟨g,2,none⟩=false/\w.cell? ⟨g,3,none⟩=some b/\w.frozen? ⟨g,3,none⟩=false/\w.cell? ⟨g,4,none⟩=some a/\w.frozen? ⟨g,4,none⟩=false/\w.cell? ⟨g,5,none⟩=some e/\w.frozen? ⟨g,5,none⟩=false/\w.cell? ⟨g,6,none⟩=some d/\w.frozen? ⟨g,6,none⟩=false/\w.cell? ⟨g,7,none⟩=some c/\w.frozen? ⟨g,7,none⟩=false:=⟨h.cell 0,h.frozen 0,h.cell 1,h.frozen 1,h.cell 2,h.frozen 2,h.cell 3,h.frozen 3,h.cell 4,h.frozen 4,h.cell 5,h.frozen 5,h.cell 6,h.frozen 6,h.cell 7,h.frozen 7⟩
theorem Ue (l:List Int) (A:Option Addr) (c B:Nat) (w:World) (p:Reads w B 1 A l.length (bI ap l)) (q:l.length<=1099511627776) :
  Calls Tryz.prog 80 #[av A l.length c] w λ e w'=>∃ v,e = ay v/\w'.ownsRow w.heap.size 3 1 v l.length (bI ap l)/\IY w w':=by
 rcases bf l.length with h | h
 .have k:=bb h;subst k;cases A with
  | none=>exact (Tryz.slices_Clone_int_nil 0 c w).mono λ _ _ ⟨d,m⟩=>⟨_,d,World.ownsRow_nil _ _ _ _,m▸Below.refl _ _⟩
  | some a=>exact (Tryz.slices_Clone_int_zero a c w).mono λ _ _ ⟨v,d,f,_,g⟩=>⟨v,d,f,g⟩
 .obtain⟨b,o,rfl,-,n⟩:=p.plain h;refine (Tryz.slices_Clone_int b o l.length c l w (aL _) (by omega) (λ j i=>by
   refine n j _ ?_;unfold bI;rw[List.getElem?_map,List.getElem?_eq_getElem i];simp[List.getD,i])).mono λ _ _ ⟨v,d,f,_,g⟩=>⟨v,d,?_,g⟩
  rw[ba] at f;exact f
theorem SB (v:Val) (A:Option Addr) (c B:Nat) (w:World) (K:Reads w B 1 A v.l.length (bI ap v.l)) (P:B<=w.heap.size) (R:v.l.length<=1048576) :
  Calls Tryz.prog 129 #[.agg (BO v A c)] w λ e w'=>(∃ A' c',e = ay (.agg (BO v A' c'))/\w'.ownsRow (w.heap.size+2) 3 1 (av A' v.l.length c') v.l.length (bI ap v.l))/\IY w w':=by
 obtain⟨F,b,d,B1⟩:=box w 65 (BO v A c);obtain⟨E,j,h,B2⟩:=box F 65 #[ao ap 0,ao ap 0,aq ⟨#[]⟩,av none 0 0];have t:F.heap.size=w.heap.size+1:=by rw[b];simp
 have s:E.heap.size=w.heap.size+2:=by rw[j];simp[t]
 have g:=d.trans (h.mono d.size);have Q:=qh (Ue v.l A c B E (K.below (g.mono P)) (by omega));have B1:=B1.below h B1.lt;rw[t] at B2;obtain⟨n,u0,q,u1,o,u2,p,u3⟩:=s4 B1;have m:=qh (aD B1 B2);clear K B1 B2 d h;go_enter Tryz.func129,Tryz.ntmps129;go_upto_region 1 with (fail);rw[<- b,<- j];clear b j t;go_upto_region 2 with (go_at_call 80;(with_reducible refine Q.o.mono ?_);rintro e3 J ⟨x,rfl,f,a⟩;obtain⟨A',c',rfl⟩:=iU f;have B1:=m.o.1.below a m.o.1.lt;have B2:=m.o.2.below a m.o.2.lt;have k:=qh (aD B1 B2);clear n u0 q u1 o u2 p u3;obtain⟨n,u0,q,u1,o,u2,p,u3⟩:=s4 B1;obtain⟨I,G,M,y,L,H,z,C⟩:=s4 B2);have l:=g.trans (a.mono g.size);have O:=qh f;have N:=a.size;clear f a n u0 q u1 o u2 p u3 I G M y L H z C B1 B2;obtain⟨W4,r⟩:=aC (J.setCell ⟨w.heap.size,3,none⟩ (av A' v.l.length c'));have i:bz w.heap.size J W4:=r▸(bz.refl _ _).set 3 _;have B1:ah W4 w.heap.size 65 (BO v A' c'):=r▸k.o.1.eG 3 _;have B2:=i.blk k.o.2 (by omega);obtain⟨n,u0,q,u1,o,u2,p,u3⟩:=s4 B1;obtain⟨I,G,M,y,L,H,z,C⟩:=s4 B2;have u:=qh B2;rw[<- r];clear r B1 B2;go_wp2;refine afX rfl rfl u.o λ W D=>⟨⟨A',c',rfl,s▸D.own (i.own O.o (by omega)) (by omega)⟩,(l.trans (i.below (aL _))).trans (D.below (by omega))⟩
set_option maxHeartbeats 4000000
set_option maxRecDepth 100000
mutual
def Ex.bl:Ex->Nat
 | .mk _ _ _ v ar=>v.l.length+2+ER ar
def ER:List Ex->Nat
 | []=>0
 | a :: r=>a.bl+ER r
end
theorem aat (e:Ex):e.bl=e.v.l.length+2+ER e.ar:=by cases e;rw[Ex.bl];rfl
theorem BM {a:Ex}:∀ {l:List Ex},a∈l->a.bl<=ER l
 | b :: r,h=>by
  rw[ER];rcases aM.1 h with e | e
  .rw[e];omega
  .have:=BM e;omega
theorem ES:∀ l:List Ex,l.length<=ER l
 | []=>a8 _
 | a :: r=>by rw[ER,bg,aat];have:=ES r;omega
theorem Ii {w:World} {B n c size:Nat} {A:Option Addr} {e:TypeId} {xs:List Value} (h:w.ownsRow B e size (av A n c) n xs):lI w (λ b=>B<=b) w.heap.size size A n xs:=by
 refine⟨Reads.ig h,λ i ad e=>?_⟩;subst e;rcases h.2 with ⟨a,-⟩ | ⟨g,d,cur,a,f,-⟩
 .injection a with a;cases a
 .injection a with a;injection a with a;subst a;exact f
theorem lI.impl {w:World} {p q:Nat->Prop} {B size n:Nat} {A:Option Addr} {xs:List Value} (h:lI w p B size A n xs) (a:∀ k,p k->q k):lI w q B size A n xs:=⟨h.r,λ b ad e=>a _ (h.l b ad e)⟩
def acX (w:World) (b:Nat) (A:Option Addr) (l:List Ex):Prop:=∃ cs,lI w (λ k=>b<=k) w.heap.size 8 A l.length cs/\∀ i (h:i<l.length),dD w (λ k=>b<=k) w.heap.size l[i] ((cs.drop (i*8)).take 8)
def aau (e:Ex):Prop:=∀ (w:World) (B:Nat) (cs:List Value),aZ w B e cs->B<=w.heap.size->e.bl<=1048576->Calls Tryz.prog 81 #[.agg cs.toArray] w λ en w'=>(∃ A1 c1 A2 c2,en = ay (.agg (ai e A1 c1 A2 c2).toArray)/\dD w' (λ b=>w.heap.size<=b) w'.heap.size e (ai e A1 c1 A2 c2))/\IY w w'
def aav (l:List Ex):Prop:=∀ (w:World) (B:Nat) (A:Option Addr) (c:Nat),aB aZ 8 w B A l->B<=w.heap.size->ER l<=1048576->Calls Tryz.prog 79 #[av A l.length c] w λ en w'=>(∃ A' c',en = ay (av A' l.length c')/\l.length<=c'/\acX w' w.heap.size A' l)/\IY w w'
theorem Qa {e:Ex} (m:aav e.ar):aau e:=by
 intro w B cs hE H R;rw[aat] at R;obtain⟨hn,hs,hl,U,hx,hr,M⟩:=hE;rename_i A c E O T;obtain⟨W1,x,v,B1⟩:=box w 67 (BC e A c E e.ar.length O);obtain⟨W2,z,y,B2⟩:=box W1 67 #[ao ap 0,ao ap 0,aq ⟨#[]⟩,ao ap 0,ao ap 0,aq ⟨#[]⟩,av none 0 0,av none 0 0];have V:W1.heap.size=w.heap.size+1:=by rw[x];simp
 have aa:W2.heap.size=w.heap.size+2:=by rw[z];simp[V]
 have j:=v.trans (y.mono v.size);have KV:=qh (SB e.v A c B W2 (hx.below (j.mono H)) (aE H j.size) (by omega));have HR:=qh (show ∀ w',IY w w'->aB aZ 8 w' B E e.ar from λ w' hq=>⟨U,T,hr.below (hq.mono H),λ i h=>(M i h).keep (hq.mono H)⟩);have P:=qh m;have HL:=qh (aD hn (aD hs (aD hl U)));have B1:=B1.below y B1.lt;rw[V] at B2;obtain⟨n,u0,q,u1,p,u2,o,u3,s,u4,t,u5,r,u6,u,u7⟩:=z8 B1;have L:=qh (aD B1 B2);clear hx hr M B1 B2 v y m hn hs hl U;change Calls _ _ #[.agg (BC e A c E e.ar.length O)] _ _;go_enter Tryz.func81,Tryz.ntmps81;go_upto_region 1 with (fail);rw[<- x,<- z];clear x z V;go_upto_region 2 with (go_at_call 129;(with_reducible refine KV.o.mono ?_);rintro e3 w3 ⟨⟨I,J,rfl,G⟩,g⟩;have B1:=L.o.1.below g L.o.1.lt;have B2:=L.o.2.below g L.o.2.lt;have F:=qh (aD B1 B2);clear n u0 q u1 p u2 o u3 s u4 t u5 r u6 u u7;obtain⟨n,u0,q,u1,p,u2,o,u3,s,u4,t,u5,r,u6,u,u7⟩:=z8 B1);have C:=j.trans (g.mono j.size);have HO:=qh G;have ae:=g.size;clear G g n u0 q u1 p u2 o u3 s u4 t u5 r u6 u u7 B1 B2;obtain⟨W4,uT,d,B1⟩:∃ W,W=(((w3.setCell ⟨w.heap.size,3,none⟩ (ao ap e.v.k)).setCell ⟨w.heap.size,4,none⟩ (ao ap e.v.n)).setCell ⟨w.heap.size,5,none⟩ (aq e.v.s)).setCell ⟨w.heap.size,6,none⟩ (av I e.v.l.length J)/\bz w.heap.size w3 W/\ah W w.heap.size 67 (BC e I J E e.ar.length O):=⟨_,rfl,((((bz.refl _ _).set 3 _).set 4 _).set 5 _).set 6 _,(((F.o.1.eG 3 _).eG 4 _).eG 5 _).eG 6 _⟩;have B2:=d.blk F.o.2 (by omega);have l:=qh (aD B1 B2);have K:=C.trans (d.below (aL _));have ak:=d.size;have Af:=qh (d.own HO.o (by omega));have KA:=qh (P.o W4 B E O (HR.o _ K) (aE H K.size) (by omega));obtain⟨n,u0,q,u1,p,u2,o,u3,s,u4,t,u5,r,u6,u,u7⟩:=z8 B1;rw[<- uT];clear uT B1 B2 d;go_upto_region 3 with (go_at_call 79;(with_reducible refine KA.o.mono ?_);rintro e5 S ⟨⟨Y,Z,rfl,ac,D⟩,a⟩;have B1:=l.o.1.below a l.o.1.lt;have B2:=l.o.2.below a l.o.2.lt;have zl:=qh (aD B1 B2);clear n u0 q u1 p u2 o u3 s u4 t u5 r u6 u u7;obtain⟨n,u0,q,u1,p,u2,o,u3,s,u4,t,u5,r,u6,u,u7⟩:=z8 B1);have nO:=K.trans (a.mono K.size);have NM:=qh (dm Af.o a);have Q:=qh D;have ad:=a.size;clear D a n u0 q u1 p u2 o u3 s u4 t u5 r u6 u u7 B1 B2;obtain⟨W6,yC,f,B1⟩:∃ W,W=S.setCell ⟨w.heap.size,7,none⟩ (av Y e.ar.length Z)/\bz w.heap.size S W/\ah W w.heap.size 67 (BC e I J Y e.ar.length Z):=⟨_,rfl,(bz.refl _ _).set 7 _,zl.o.1.eG 7 _⟩;have B2:=f.blk zl.o.2 (by omega);have MX:=qh B2;obtain⟨n,u0,q,u1,p,u2,o,u3,s,u4,t,u5,r,u6,u,u7⟩:=z8 B1;obtain⟨r0,t0,r1,t1,r2,t2,r3,t3,r4,t4,r5,t5,r6,t6,r7,t7⟩:=z8 B2;rw[<- yC];clear yC B1 B2;go_wp2;refine amk rfl rfl MX.o λ W N=>?_;have al:=N.size;have ab:=f.size;refine⟨⟨I,J,Y,Z,rfl,?_⟩,(nO.trans (f.below (aL _))).trans (N.below (by omega))⟩;obtain⟨h1,h2,h3,h4⟩:=HL.o;obtain⟨am,r5,i5⟩:=Q.o;have st:dN (λ b=>W4.heap.size<=b) S W:=⟨by omega,λ k X hl=>(N.far k (by omega)).trans (f.far k (by omega))⟩;exact dD.mk h1 h2 h3 h4 ((Ii (N.own (f.own NM.o (by omega)) (by omega))).impl (λ k X=>by omega)) (((r5.keep st).up (by omega)).impl (λ k X=>by omega)) (λ i M=>((((i5 i M).keep st).up (by omega)).imp (λ k X _=>by omega)))
set_option maxHeartbeats 4000000
set_option maxRecDepth 100000
def Dx (B:Nat) (v:Value) (b:Nat):Prop:=B<=b/\v.ownBlock≠some b
def ExS (B:Nat) (w:World) (v:Value) (P:List Ex):Prop:=∃ cs,w.ownsRow B 67 8 v P.length cs/\∀ i (h:i<P.length),dD w (Dx B v) w.heap.size P[i] ((cs.drop (i*8)).take 8)
theorem ExS.later {B:Nat} {w w':World} {v:Value} {P:List Ex} (h:ExS B w v P) (a:IY w w'):ExS B w' v P:=by
 obtain⟨cs,b,c⟩:=h;exact⟨cs,dm b a,λ i d=>((c i d).keep (dN.of a)).up a.size⟩
theorem ExS.push {B:Nat} {w w':World} {v c:Value} {P:List Ex} {e:Ex} {cs ds:List Value} (o:w.ownsRow B 67 8 v P.length cs) (l:∀ i (h:i<P.length),dD w (Dx B v) w.heap.size P[i] ((cs.drop (i*8)).take 8)) (n:dD w (Dx B v) w.heap.size e ds) (a:ds.length=8)
  (p:w'.ownsRow B 67 8 c (P.length+1) (cs ++ ds)) (j:w.grownBy w' v.ownBlock) (f:c.ownBlock=v.ownBlock\/c.ownBlock=some w.heap.size):ExS B w' c (P ++ [e]):=by
 have r:cs.length=P.length*8:=o.1;have d:∀ {x:Ex} {xs:List Value},dD w (Dx B v) w.heap.size x xs->dD w' (Dx B c) w'.heap.size x xs:=λ m=>(((m.imp (q:=λ b=>B<=b/\v.ownBlock≠some b/\b<w.heap.size) (λ k a s=>⟨a.1,a.2,s⟩)).keep (dN.grown j (λ k a e=>a.2.1 e.symm))).up j.size).imp (λ k a _=>⟨a.1,by
  rcases f with e | e
  .rw[e];exact a.2.1
  .rw[e];intro g;injection g with g;omega⟩)
 refine⟨cs ++ ds,by rw[bc];exact p,λ i t=>?_⟩;rw[bc,List.length_singleton] at t;by_cases hlt:i<P.length
 .rw[List.getElem_append_left hlt,bh (by omega),List.take_append_of_le_length (by rw[List.length_drop];omega)];exact d (l i hlt)
 .obtain rfl:i=P.length:=by omega
  rw[<- r,bh (by omega),List.drop_length,List.nil_append,List.take_of_length_le (by omega)];simpa using d n
theorem Ij:(Tryz.prog.info? 67).map (λ i=>(i.zero,i.size,i.bytes))=some (some (.agg #[.int .i64 0,.int .i64 0,.string ⟨#[]⟩,.int .i64 0,.int .i64 0,.string ⟨#[]⟩,.slice none 0 0,.slice none 0 0]),8,112):=by kernel_rfl
theorem BN {l:List Ex} (n:∀ e∈l,aau e):aav l:=by
 intro w B A c hL T al;obtain⟨j0,ae,W,V,X⟩:=info_parts Ij;have an:=ES l;have HL:=qh hL;have HR:=qh (show ∀ e∈l,aau e/\e.bl<=1048576 from λ e L=>⟨n e L,by have:=BM L;omega⟩);clear hL n;go_enter Tryz.func79,Tryz.ntmps79;go_wp2;go_loopw [8,3] (λ i v wr=>∃ k:Nat,i = ao ap k/\k<=l.length/\Hid (ExS w.heap.size wr v (l.take k))/\Hid (IY w wr)) (λ i _ _=>l.length+1 - (intOf i).toNat)
 case atStart=>exact⟨0,rfl,a8 _,qh ⟨[],World.ownsRow_nil _ _ _ _,λ i h=>by cases h⟩,qh (Below.refl _ _)⟩
 case round =>
  obtain⟨k,rfl,hk,HS,HB⟩:=hrel;have D:=HB.o;have hs:=D.size;obtain⟨y,a,d⟩:=HS.o;have m:(l.take k).length=k:=by rw[List.length_take];omega
  rw[m] at a;obtain⟨R,S,rfl⟩:=iU a;by_cases hlt:k<l.length
  case neg =>
   obtain rfl:k=l.length:=by omega
   have HX:=qh (aD a d);clear a d m;go_wp2;go_ret;obtain⟨a,d⟩:=HX.o;rw[ba] at d;exact⟨⟨R,S,rfl,oZ a,y,Ii a,λ i hi=>(d i hi).imp (λ q M _=>M.1)⟩,D⟩
  obtain⟨ad,ci,rfl,Z,s,j⟩:=aB.at_ (aB.keep (λ _ _ h=>h.keep (D.mono T)) HL.o (D.mono T)) hlt;have sQ:=qh (show l.take (k+1)=l.take k ++ [l[k]] from List.take_succ_eq_append_getElem hlt);have r:=qh (HR.o _ (a9 hlt));obtain⟨e,L⟩:=af (l[k]);rw[L] at s sQ r;have nP:=qh s;have aW:=qh hlt;obtain⟨-,-,-,-,-,-,-⟩:=s;rename_i A3 c3 A4 c4 am;obtain⟨f0,f1,f2,f3,f4,f5,f6,f7⟩:=e8 j;obtain⟨o,K,f,B1⟩:=box wr 67 (BC e A3 c3 A4 e.ar.length c4);have p:=D.trans (f.mono hs);have KC:=qh (show Calls Tryz.prog 81 #[.agg (BC e A3 c3 A4 e.ar.length c4)] o λ en w'=>(∃ A1 c1 A2 c2,en = ay (.agg (BC e A1 c1 A2 e.ar.length c2))/\dD w' (λ b=>o.heap.size<=b) w'.heap.size e (ai e A1 c1 A2 c2))/\IY o w' from r.o.1 o B _ (nP.o.keep (f.mono (aE T hs))) (aE T p.size) r.o.2);have OV:=dm a f;have HX:=qh (show ∀ w',IY o w'->∀ i (h:i<(l.take k).length),dD w' (Dx w.heap.size (av R k S)) w'.heap.size (l.take k)[i] ((y.drop (i*8)).take 8) from λ w' M i hi=>((d i hi).keep (dN.of (f.trans (M.mono f.size)))).up (f.trans (M.mono f.size)).size);clear j L Z a d;go_upto_region 5 with (fail);rw[<- K];clear K f0 f1 f2 f3 f4 f5 f6 f7;obtain⟨f0,f1,f2,f3,f4,f5,f6,f7⟩:=b8 B1;have ab:=p.size;have O:∀ g,(Value.slice R k S).ownBlock=some g->w.heap.size<=g/\g<o.heap.size:=λ g hg=>OV.lt g hg;go_wp2_with (first
   | (go_at_call 81;(with_reducible refine KC.o.mono ?_);rintro e2 F ⟨⟨N,Q,J,E,rfl,H⟩,t⟩;have IG:=qh (dm OV t);have x:=az F (.cells (BC e N Q J e.ar.length E) 67 (0,0));have UZ:=qh H;have Y:=t.size;have G:=t.trans (x.mono Y);clear H)
   | (at_builtin;refine wpList_append_lies _ rfl _ _ 52 rfl w.heap.size 67 j0 (.agg #[.int .i64 0,.int .i64 0,.string ⟨#[]⟩,.int .i64 0,.int .i64 0,.string ⟨#[]⟩,.slice none 0 0,.slice none 0 0]) 8 112 Tryz.underlying52 ae W V X rfl (by decide) _ _ _ rfl (IG.o.alloc _) ⟨F.heap.size,0,none⟩ 1 1 [.int .i64 e.k,.int .i64 e.op,.string e.nm,.int .i64 e.v.k,.int .i64 e.v.n,.string e.v.s,.slice N e.v.l.length Q,.slice J e.ar.length E] rfl rfl ?d1 ?d2 (by decide) ?d3 ?d4 ?d5 _ rfl ?_))
  case d1=>exact World.news_of_block (ah.new F 67 _)
  case d2=>intro u hu;simp only[aM,bi,or_false] at hu;rcases hu with rfl | rfl | rfl | rfl | rfl | rfl | rfl | rfl <;> rfl
  case d3=>unfold maxLen;omega
  case d4=>omega
  case d5=>simp;omega
  intro g4 aa w4 z P Dw ak;have I:=IG.o.alloc (.cells (BC e N Q J e.ar.length E) 67 (0,0));have C:(F.alloc (.cells (BC e N Q J e.ar.length E) 67 (0,0))).heap.size=F.heap.size+1:=by simp
  have U:=qh (show ExS w.heap.size w4 (av (some ⟨g4,0,none⟩) (k+1) aa) (l.take (k+1)) by
   rw[sQ.o];refine ExS.push (cs:=y) (ds:=[ao ap e.k,ao ap e.op,aq e.nm,ao ap e.v.k,ao ap e.v.n,aq e.v.s,av N e.v.l.length Q,av J e.ar.length E]) (v:=av R k S) (by rw[m];exact I) (HX.o _ G) (((UZ.o.keep (dN.of x)).up x.size).imp (λ q M _=>⟨by omega,λ e=>by have:=O q e;omega⟩)) rfl (by rw[m];exact z) P ?_;rcases Dw with e | e
   .exact .inl e.symm
   .exact .inr (congrArg some (e.trans C.symm)))
  have ac:=qh ((p.trans (G.mono ab)).grown P (by omega) (λ g hg=>(O g hg).1));clear I;go_wp2_with fail;go_roundw
  case rel=>exact⟨k+1,by go_num,aW.o,U,ac⟩
  case measure =>
   have:=aW.o;simp[intOf];omega
mutual
theorem Ik:∀ e:Ex,aau e
 | .mk _ _ _ _ ar=>Qa (e:=.mk _ _ _ _ ar) (BN (zU ar))
theorem zU:∀ l:List Ex,∀ e∈l,aau e
 | [],_,h=>by cases h
 | a :: r,e,h=>by
  rcases aM.1 h with q | q
  .rw[q];exact Ik a
  .exact zU r e q
end
theorem Eh (l:List Ex):aav l:=BN (zU l)
set_option maxHeartbeats 4000000
set_option maxRecDepth 100000
def afY:Go.Shelf.Ren:=⟨fun | 41=>61 | n=>n,fun | 22=>53 | 23=>9 | 4=>4 | n=>n,fun | n=>n⟩
theorem Uf:Go.Proofs.SlLaysE0.n41 Tryz.prog afY:={
 mixed:=by kernel_rfl
 f41:=⟨Tryz.f61.name,by decide,Tryz.func61.trans (congrArg some (by kernel_rfl))⟩
 t4:=Tryz.underlying4
 a4:=Tryz.isAgg4
 z4:=Tryz.sizeOf4
 v4:=Tryz.zeroValue4
 t22:=Tryz.underlying53
 a22:=Tryz.isAgg53
 z22:=Tryz.sizeOf53
 v22:=Tryz.zeroValue53 }
open Go.Lib in
theorem Ug (l:List ByteArray) (A:Option Addr) (c B:Nat) (w:World) (z:bV w B A l) (C:l.length<=1048576) :
  Calls Tryz.prog 61 #[av A l.length c] w λ e w'=>(∃ A' r c',e = ay (av A' r c'))/\IY w w':=by
 obtain⟨p,j,k,f,d⟩:=info_parts xU;rcases bf l.length with i | i
 .have m:=bb i;subst m;cases A with
  | none=>exact (AnyE.slices_Clone_nil Uf 0 c w).mono λ _ _ ⟨g,x⟩=>⟨⟨_,_,_,g⟩,x▸Below.refl _ _⟩
  | some a =>
   show Calls _ _ #[av (some a) 0 c] _ _;have m:∀ w',(binOp .eql 53 (av (some a) 0 c) (av none 0 0)).run Tryz.prog w' = .ok (ax false) w':=λ _=>by kernel_rfl
   go_enter Tryz.func61,Tryz.ntmps61;go_wp2;go_ret;exact⟨⟨_,_,_,rfl⟩,az _ _⟩
 .obtain⟨b,o,rfl,-,y⟩:=z.plain i;refine (AnyE.slices_Clone Uf p _ 1 16 j k f d rfl (by decide) Tryz.sizeOf9 b o l.length c (jq l) w (by simp[jq]) (by unfold maxLen;omega) (by omega) y (λ u n=>by simp[jq] at n;obtain⟨s,-,rfl⟩:=n;rfl)).mono λ _ _ h=>?_;obtain⟨v,g,q,-,t⟩:=h;obtain⟨A',c',rfl⟩:=iU q;exact⟨⟨_,_,_,g⟩,t⟩
theorem bz.many {g:Nat} {w:World}:∀ (a:List Value) (o:Nat) {w':World},bz g w w'->bz g w (w'.setCells g o a)
 | [],_,_,h=>h
 | v :: r,o,_,h=>bz.many r (o+1) (h.set o v)
theorem ah.mid {g:Nat} {T:TypeId} {post:List Value}:∀ (b old a:List Value) {w:World},ah w g T (a ++ old ++ post).toArray->old.length=b.length->ah (w.setCells g a.length b) g T (a ++ b ++ post).toArray
 | [],old,a,w,h,hl=>by
  obtain rfl:old = []:=bb hl;exact h
 | v :: r,x :: old,a,w,h,hl=>by
  have d:=h.eG a.length v;have e:(a ++ (x :: old) ++ post).toArray.setIfInBounds a.length v=((a ++ [v]) ++ old ++ post).toArray:=by simp
  rw[e] at d;have c:=ah.mid r old (a ++ [v]) d (by simpa using hl);rw[bc] at c;have f:(a ++ [v]) ++ r ++ post=a ++ (v :: r) ++ post:=by simp
  rw[f] at c;exact c
 | v :: r,[],a,w,h,hl=>by simp at hl
theorem Wy {w:World} {g:Nat} {T:TypeId} {cs:Array Value} (h:ah w g T cs) (o n:Nat) (b:o+n<=cs.size):w.there g o n:=λ j a=>⟨by rw[h.cell,Array.getElem?_eq_getElem (by omega)];rfl,h.frozen _⟩
theorem ML {w:World} {g o:Nat} {T b:TypeId} {cs:Array Value} {a:List Value} (h:ah w g T cs) (d:o+a.length<=cs.size) (e:(Tryz.prog.info? b).map (·.size)=some a.length) (c:∀ v∈a,v.oneCell'=true) :
  (JB b (aw (some ⟨g,o,none⟩)) (.agg a.toArray)).run Tryz.prog w = .ok () (w.setCells g o a):=
 run_storeAt_mid w g o b a.toArray (Wy h o _ (by simpa using d)) (by simpa using e) (by rw[<- Array.all_toList];exact List.all_eq_true.2 c)
theorem amn {a:Func} {s:Tmp} {tmps:Array Value} {w4:World} {g:Nat} {cs:List Value} {Q:Ending->World->Prop} (e:a.results = #[.cell s 59]) (d:tmps[s]?.getD undef = aw (some ⟨g,0,none⟩)) (f:cs.length=19) (B:ah w4 g 59 cs.toArray) (h:Q (ay (.agg cs.toArray)) w4) :
  bodyPost Tryz.prog a Q Exit.ret { tmps:=tmps,defers:=[] } w4:=by
 have b:(loadVar 59 ⟨g,0,none⟩).run Tryz.prog w4 = .ok (.agg cs.toArray) w4:=run_loadVar_mid w4 g 0 59 cs _ (λ j v c=>by rw[Nat.zero_add,B.cell];simpa using c) Tryz.underlying59 rfl (by rw[f];kernel_rfl);exact bodyPost_ret (v:=.agg cs.toArray) (by simp[results,e,d,b,Instr.loadAt,Sem.run_bind,Sem.run_pure,asAddr,Result.andThen_ok]) rfl h
set_option maxHeartbeats 4000000
set_option maxRecDepth 100000
def rG.cu (a:rG):Nat:=ER a.only+a.rs.length+(a.ch.map (λ r=>r.must.bl+r.ph.length+1)).sum
mutual
def ItemD.cu:ItemD->Nat
 | .mk _ _ iff ph items _ cnt _ ans cmp=>ER iff+ER cnt+ER cmp+ph.length+ans.cu+1+QU items
def QU:List ItemD->Nat
 | []=>0
 | a :: r=>a.cu+QU r
end
theorem Uh (x:ItemD):x.cu=ER x.iff+ER x.cnt+ER x.cmp+x.ph.length+x.ans.cu+1+QU x.items:=by cases x;rw[ItemD.cu];rfl
theorem Ui {a:ItemD}:∀ {l:List ItemD},a∈l->a.cu<=QU l
 | b :: r,h=>by
  rw[QU];rcases aM.1 h with e | e
  .rw[e];omega
  .have:=Ui e;omega
theorem Uj:∀ l:List ItemD,l.length<=QU l
 | []=>a8 _
 | a :: r=>by rw[QU,bg,Uh];have:=Uj r;omega
def MM (w:World) (p:Nat->Prop) (A:Option Addr) (l:List Ex):Prop:=∃ cs,lI w p w.heap.size 8 A l.length cs/\∀ i (h:i<l.length),dD w p w.heap.size l[i] ((cs.drop (i*8)).take 8)
theorem MM.keep {w w':World} {p:Nat->Prop} {A:Option Addr} {l:List Ex} (h:MM w p A l) (a:dN p w w'):MM w' p A l:=by
 obtain⟨cs,b,c⟩:=h;exact⟨cs,(b.keep a).up a.1,λ i d=>((c i d).keep a).up a.1⟩
theorem MM.imp {w:World} {p q:Nat->Prop} {A:Option Addr} {l:List Ex} (h:MM w p A l) (a:∀ k,p k->k<w.heap.size->q k):MM w q A l:=by
 obtain⟨cs,c,f⟩:=h;refine⟨cs,⟨c.r,λ d ad e=>a _ (c.l d ad e) ?_⟩,λ i m=>(f i m).imp a⟩;obtain⟨j,b,g,-⟩:=c.r.2 d;rw[e] at b;injection b with b;rw[b];exact g
def mr (b:Nat) (w:World) (l:List Ex) (v:Value):Prop:=∃ A c,v = av A l.length c/\MM w (λ k=>b<=k) A l
theorem mr.keep {b:Nat} {w w':World} {l:List Ex} {v:Value} (h:mr b w l v) (d:IY w w'):mr b w' l v:=by
 obtain⟨A,c,e,a⟩:=h;exact⟨A,c,e,a.keep (dN.of d)⟩
theorem mr.sets {b g:Nat} {w w':World} {l:List Ex} {v:Value} (h:mr b w l v) (d:bz g w w') (i:g<b):mr b w' l v:=by
 obtain⟨A,c,e,a⟩:=h;exact⟨A,c,e,a.keep (d.stay λ k f=>by omega)⟩
structure R1 (w cur:World) (x:ItemD) (ci:List Value) (o1 o3:Option Value):Prop where
 bel:IY w cur
 le:w.heap.size+2<=cur.heap.size
 b1:ah cur w.heap.size 59 ci.toArray
 b2:ah cur (w.heap.size+1) 59 #[ao ap 0,aq ⟨#[]⟩,av none 0 0,av none 0 0,av none 0 0,ax false,av none 0 0,aq ⟨#[]⟩,ao ap 0,ao ap 0,ao ap 0,ao ap 0,aq ⟨#[]⟩,av none 0 0,ax false,av none 0 0,ax false,av none 0 0,av none 0 0]
 e1:∀ v,o1=some v->mr (w.heap.size+2) cur x.iff v
 e3:∀ v,o3=some v->mr (w.heap.size+2) cur x.cmp v
theorem R1.later {w cur w':World} {x:ItemD} {ci:List Value} {b o3:Option Value} (h:R1 w cur x ci b o3) (a:IY cur w'):R1 w w' x ci b o3:=
 ⟨h.bel.trans (a.mono h.bel.size),aE h.le a.size,h.b1.below a h.b1.lt,h.b2.below a h.b2.lt,λ v e=>(h.e1 v e).keep a,λ v e=>(h.e3 v e).keep a⟩
structure R2 (w cur:World) (x:ItemD) (ci:List Value):Prop where
 bel:IY w cur
 le:w.heap.size+2<=cur.heap.size
 b1:ah cur w.heap.size 59 ci.toArray
 b2:ah cur (w.heap.size+1) 59 #[ao ap 0,aq ⟨#[]⟩,av none 0 0,av none 0 0,av none 0 0,ax false,av none 0 0,aq ⟨#[]⟩,ao ap 0,ao ap 0,ao ap 0,ao ap 0,aq ⟨#[]⟩,av none 0 0,ax false,av none 0 0,ax false,av none 0 0,av none 0 0]
 h19:ci.length=19
 h1c:∀ v∈ci,v.oneCell'=true
 e1:∃ v,ci[2]?=some v/\mr (w.heap.size+2) cur x.iff v
 e3:∃ v,ci[18]?=some v/\mr (w.heap.size+2) cur x.cmp v
theorem R1.end_ {w cur:World} {x:ItemD} {ci:List Value} {v1 b v3:Value} (h:R1 w cur x ci (some v1) (some v3)) (a:ci.length=19) (d:∀ v∈ci,v.oneCell'=true) (f:b.oneCell'=true) :
  R2 w (((cur.setCell ⟨w.heap.size,2,none⟩ v1).setCell ⟨w.heap.size,6,none⟩ b).setCell ⟨w.heap.size,18,none⟩ v3) x (((ci.set 2 v1).set 6 b).set 18 v3):=by
 have c:bz w.heap.size cur (((cur.setCell ⟨w.heap.size,2,none⟩ v1).setCell ⟨w.heap.size,6,none⟩ b).setCell ⟨w.heap.size,18,none⟩ v3):=(((bz.refl _ _).set 2 v1).set 6 b).set 18 v3;have B:=(((h.b1.eG 2 v1).eG 6 b).eG 18 v3);have e:=h.e1 v1 rfl;have e3:=h.e3 v3 rfl;obtain⟨k,n,i,-⟩:=id e;obtain⟨l,m,j,-⟩:=id e3;refine⟨h.bel.trans (c.below (aL _)),by rw[c.size];exact h.le,by simpa using B,c.blk h.b2 (by omega),by simp[a],λ v g=>?_,⟨v1,by simp[a],e.sets c (by omega)⟩,⟨v3,by simp[a],e3.sets c (by omega)⟩⟩;rcases aR g with q | q
 .rcases aR q with q | q
  .rcases aR q with q | q
   .exact d v q
   .rw[q,i];rfl
  .rw[q];exact f
 .rw[q,j];rfl
theorem R1.call {w:World} {x:ItemD} {ci:List Value} {l:List Ex} {A:Option Addr} {c B:Nat} (s:aB aZ 8 w B A l) (g:B<=w.heap.size) (d:ER l<=1048576) {cur:World} {f o3:Option Value} (h:R1 w cur x ci f o3) :
  Calls Tryz.prog 79 #[av A l.length c] cur λ m w'=>∃ A' c',m = ay (av A' l.length c')/\mr (w.heap.size+2) w' l (av A' l.length c')/\R1 w w' x ci f o3:=by
 have j:Below B w cur:=h.bel.mono g;refine (Eh l cur B A c (s.keep (λ _ _ q=>q.keep j) j) (aE g h.bel.size) d).mono λ m w' o=>?_;obtain⟨⟨A',c',p,-,cs,r,n⟩,b⟩:=o;have a:=h.le;exact⟨A',c',p,⟨A',c',rfl,cs,r.impl λ k e=>aE a e,λ i t=>(n i t).imp λ k e _=>aE a e⟩,h.later b⟩
theorem R1.amo {w cur:World} {x:ItemD} {ci:List Value} {a o3:Option Value} {v:Value} (h:R1 w cur x ci a o3) (b:mr (w.heap.size+2) cur x.iff v):R1 w cur x ci (some v) o3:=
 ⟨h.bel,h.le,h.b1,h.b2,λ u e=>by injection e with e;exact e▸b,h.e3⟩
theorem R1.amq {w cur:World} {x:ItemD} {ci:List Value} {a b:Option Value} {v:Value} (h:R1 w cur x ci a b) (c:mr (w.heap.size+2) cur x.cmp v):R1 w cur x ci a (some v):=
 ⟨h.bel,h.le,h.b1,h.b2,h.e1,λ u e=>by injection e with e;exact e▸c⟩
structure R4 (w w1 cur:World) (v1 v3:Value) (ci:List Value):Prop where
 bel:IY w cur
 stay:dN (λ k=>w.heap.size+2<=k) w1 cur
 le:w.heap.size+2<=w1.heap.size
 b1:ah cur w.heap.size 59 ci.toArray
 b2:ah cur (w.heap.size+1) 59 #[ao ap 0,aq ⟨#[]⟩,av none 0 0,av none 0 0,av none 0 0,ax false,av none 0 0,aq ⟨#[]⟩,ao ap 0,ao ap 0,ao ap 0,ao ap 0,aq ⟨#[]⟩,av none 0 0,ax false,av none 0 0,ax false,av none 0 0,av none 0 0]
 h19:ci.length=19
 h1c:∀ v∈ci,v.oneCell'=true
 e1:ci[2]?=some v1
 e3:ci[18]?=some v3
theorem R2.go {w cur:World} {x:ItemD} {ci:List Value} (h:R2 w cur x ci):∃ v1 v3,mr (w.heap.size+2) cur x.iff v1/\mr (w.heap.size+2) cur x.cmp v3/\R4 w cur cur v1 v3 ci:=by
 obtain⟨v1,b,a⟩:=h.e1;obtain⟨v3,e3,c⟩:=h.e3;exact⟨v1,v3,a,c,h.bel,⟨aL _,λ _ _ _=>rfl⟩,h.le,h.b1,h.b2,h.h19,h.h1c,b,e3⟩
section
variable {w w1 cur w':World} {v1 v3:Value} {ci:List Value}
theorem R4.size (h:R4 w w1 cur v1 v3 ci):w.heap.size+2<=cur.heap.size:=aE h.le h.stay.1
theorem R4.exs (h:R4 w w1 cur v1 v3 ci) {l:List Ex} {v:Value} (a:mr (w.heap.size+2) w1 l v):mr (w.heap.size+2) cur l v:=by
 obtain⟨A,c,e,q⟩:=a;exact⟨A,c,e,q.keep h.stay⟩
theorem R4.move (h:R4 w w1 cur v1 v3 ci) (b:Below (w.heap.size+2) cur w') (d:dN (λ k=>w.heap.size+2<=k/\k<w1.heap.size) cur w'):R4 w w1 w' v1 v3 ci:=
 ⟨h.bel.trans (b.mono (by omega)),⟨aE h.stay.1 d.1,λ k c a=>(d.2 k ⟨c,a⟩ (bd a h.stay.1)).trans (h.stay.2 k c a)⟩,h.le,h.b1.below b (by omega),h.b2.below b (by omega),h.h19,h.h1c,h.e1,h.e3⟩
theorem R4.later (h:R4 w w1 cur v1 v3 ci) (a:IY cur w'):R4 w w1 w' v1 v3 ci:=h.move (a.mono h.size) ⟨a.size,λ k _ b=>a.block k b⟩
theorem R4.far (h:R4 w w1 cur v1 v3 ci) {g:Nat} (a:bz g cur w') (b:w1.heap.size<=g):R4 w w1 w' v1 v3 ci:=h.move (a.below (aE h.le b)) (a.stay λ k c=>by omega)
theorem R4.grown (h:R4 w w1 cur v1 v3 ci) {row:Option Nat} (a:cur.grownBy w' row) (b:∀ g,row=some g->w1.heap.size<=g):R4 w w1 w' v1 v3 ci:=
 h.move ((Below.refl _ _).grown a h.size (λ g e=>aE h.le (b g e))) (dN.grown a λ k c e=>by have:=b k e.symm;omega)
theorem R4.set (h:R4 w w1 cur v1 v3 ci) (i:Nat) {v:Value} (c:i≠2) (b:i≠18) (f:v.oneCell'=true):R4 w w1 (cur.setCell ⟨w.heap.size,i,none⟩ v) v1 v3 (ci.set i v):=by
 have a:bz w.heap.size cur (cur.setCell ⟨w.heap.size,i,none⟩ v):=(bz.refl _ _).set i v;have B:=h.b1.eG i v;refine⟨h.bel.trans (a.below (aL _)),⟨by rw[a.size];exact h.stay.1,λ k e d=>(a.far k (by omega)).trans (h.stay.2 k e d)⟩,h.le,by simpa using B,a.blk h.b2 (by omega),by simp[h.h19],λ u g=>?_,by rw[bj c];exact h.e1,by rw[bj b];exact h.e3⟩;rcases aR g with q | q
 .exact h.h1c u q
 .rw[q];exact f
theorem R4.cell (h:R4 w w1 cur v1 v3 ci) {i:Nat} {u:Value} (a:ci[i]?=some u):cur.cell? ⟨w.heap.size,i,none⟩=some u/\cur.frozen? ⟨w.heap.size,i,none⟩=false:=⟨by rw[h.b1.cell];simpa using a,h.b1.frozen _⟩
end
def R5 (w w1:World) (v1 v3:Value) (ci:List Value) (g:Nat) (an:List Value) (cur:World):Prop:=R4 w w1 cur v1 v3 ci/\ah cur g 57 an.toArray/\w1.heap.size<=g/\an.length=10/\∀ v∈an,v.oneCell'=true
theorem R5.later {w w1 cur w':World} {v1 v3:Value} {ci a:List Value} {g:Nat} (h:R5 w w1 v1 v3 ci g a cur) (b:IY cur w'):R5 w w1 v1 v3 ci g a w':=⟨h.1.later b,h.2.1.below b h.2.1.lt,h.2.2⟩
theorem R5.drew {w w1 cur:World} {v1 v3:Value} {ci a:List Value} {g:Nat} (h:R5 w w1 v1 v3 ci g a cur):R5 w w1 v1 v3 ci g a cur.drew:=h.later (Below.refl _ _).drew
theorem R5.set {w w1 cur:World} {v1 v3:Value} {ci b:List Value} {g:Nat} (h:R5 w w1 v1 v3 ci g b cur) (i:Nat) {v:Value} (d:v.oneCell'=true):R5 w w1 v1 v3 ci g (b.set i v) (cur.setCell ⟨g,i,none⟩ v):=by
 obtain⟨j,c,a,f,k⟩:=h;refine⟨j.far ((bz.refl _ _).set i v) a,by simpa using c.eG i v,a,by simp[f],λ u e=>?_⟩;rcases aR e with q | q
 .exact k u q
 .rw[q];exact d
theorem R5.cell {w w1 cur:World} {v1 v3:Value} {ci a:List Value} {g:Nat} (h:R5 w w1 v1 v3 ci g a cur) {i:Nat} {u:Value} (b:a[i]?=some u):cur.cell? ⟨g,i,none⟩=some u/\cur.frozen? ⟨g,i,none⟩=false:=⟨by rw[h.2.1.cell];simpa using b,h.2.1.frozen _⟩
theorem R5.grown {w w1 cur w':World} {v1 v3:Value} {ci a:List Value} {g:Nat} (h:R5 w w1 v1 v3 ci g a cur) {row:Option Nat} (b:cur.grownBy w' row) (c:∀ k,row=some k->g<k):R5 w w1 v1 v3 ci g a w':=
 ⟨h.1.grown b λ k e=>by have:=c k e;have:=h.2.2.1;omega,h.2.1.grown b λ e=>by have:=c g e.symm;omega,h.2.2⟩
def S9 (P:World->Prop) (b:Nat) (T:TypeId) (size:Nat) (v:Value) (n:Nat) (xs:List Value) (g:Nat) (ds:List Value) (cur:World):Prop:=P cur/\cur.ownsRow b T size v n xs/\ah cur g T ds.toArray
theorem S9.later {P:World->Prop} (d:∀ w w',P w->IY w w'->P w') {b size n g:Nat} {T:TypeId} {v:Value} {c ds:List Value} {cur w':World} (h:S9 P b T size v n c g ds cur) (a:IY cur w'):S9 P b T size v n c g ds w':=⟨d _ _ h.1 a,dm h.2.1 a,h.2.2.below a h.2.2.lt⟩
theorem S9.cell {P:World->Prop} {b size n g:Nat} {T:TypeId} {v:Value} {a ds:List Value} {cur:World} (h:S9 P b T size v n a g ds cur) {i:Nat} {u:Value} (c:ds[i]?=some u):cur.cell? ⟨g,i,none⟩=some u:=by rw[h.2.2.cell];simpa using c
theorem S9.adJ {P:World->Prop} (c:∀ w w',P w->IY w w'->P w') {b size n g:Nat} {T:TypeId} {v:Value} {a ds:List Value} {cur:World} (h:S9 P b T size v n a g ds cur):S9 P b T size v n a g ds cur.drew:=h.later c (Below.refl _ _).drew
theorem amr {α:Type}:∀ {cs:List α},cs.length=10->∃ i j h b a g f d c e,cs = [i,j,h,b,a,g,f,d,c,e]
 | [i,j,h,b,a,g,f,d,c,e],_=>⟨i,j,h,b,a,g,f,d,c,e,rfl⟩
theorem R4.mid {w w1 cur:World} {q t:Value} {ci b:List Value} (h:R4 w w1 cur q t ci) (y:b.length=10) (a:∀ v∈b,v.oneCell'=true):∃ x,R4 w w1 (cur.setCells w.heap.size 8 b) q t x/\x[4]?=ci[4]?:=by
 have d:bz w.heap.size cur (cur.setCells w.heap.size 8 b):=bz.many b 8 (bz.refl _ _);obtain⟨o,v1,z,v3,s,u,r,A,I,H,n,g,j,l,i,e,m,f,c,rfl⟩:=Z8 h.h19;have B:=ah.mid (post:=[c]) b [I,H,n,g,j,l,i,e,m,f] [o,v1,z,v3,s,u,r,A] h.b1 y.symm;obtain⟨M,J,L,K,C,G,E,F,D,N,rfl⟩:=amr y;refine⟨[o,v1,z,v3,s,u,r,A,M,J,L,K,C,G,E,F,D,N,c],⟨h.bel.trans (d.below (aL _)),⟨by rw[d.size];exact h.stay.1,λ k P O=>(d.far k (by omega)).trans (h.stay.2 k P O)⟩,h.le,B,d.blk h.b2 (by omega),rfl,λ v p=>?_,h.e1,h.e3⟩,rfl⟩;simp only[aM,bi,or_false] at p;rcases p with rfl | rfl | rfl | rfl | rfl | rfl | rfl | rfl | rfl | rfl | rfl | rfl | rfl | rfl | rfl | rfl | rfl | rfl | rfl
 .exact h.h1c _ (by simp)
 .exact h.h1c _ (by simp)
 .exact h.h1c _ (by simp)
 .exact h.h1c _ (by simp)
 .exact h.h1c _ (by simp)
 .exact h.h1c _ (by simp)
 .exact h.h1c _ (by simp)
 .exact h.h1c _ (by simp)
 .exact a _ (by simp)
 .exact a _ (by simp)
 .exact a _ (by simp)
 .exact a _ (by simp)
 .exact a _ (by simp)
 .exact a _ (by simp)
 .exact a _ (by simp)
 .exact a _ (by simp)
 .exact a _ (by simp)
 .exact a _ (by simp)
 .exact h.h1c _ (by simp)
end Go.Proofs.YtcnagconagpkcaaGreatDoor
