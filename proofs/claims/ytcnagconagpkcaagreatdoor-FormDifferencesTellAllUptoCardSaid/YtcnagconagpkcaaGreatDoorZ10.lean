/- Lemmas. -/
import Derived.Test.YtcnagconagpkcaaGreatDoorZ9
set_option maxHeartbeats 4000000
set_option maxRecDepth 100000
open Go.Value renaming int->ay, string->aD, slice->aE
open Go.IntKind renaming i64->aA
open List renaming length->aL, getElem_mem->aZ, length_cons->a0, length_nil->a1
open And renaming intro->aM
open Nat renaming le_refl->aR, le_trans->aX, zero_mul->a2
namespace Go.Proofs.YtcnagconagpkcaaGreatDoor
open Go.RowKit
attribute [local go_sem ↓] Go.wp_at_zero Go.wp_at_succ
theorem ad6 (e:Ex) (d:e.k=1) (V:∀ a∈e.ar,fD 212 a) (X:∀ a∈e.ar,a.text.length<=1000000000) (H:∀ l,((insL l e.ar).map aL).sum+98*e.ar.length<=999999000) (q:e.ar.length<=999999) (o:jV e=0) (B:Nat) (cs:List Value) (w:World) (h:aQ w B e cs) (s:B<=w.heap.size) (c:Tab w) (z:Mx w) :
  CS 212 #[.agg cs.toArray] w (aD (tx (e.text))):=by
 have P:=lQ o;have N:=qh h;obtain⟨R,p⟩:=af (e.text);rw[p];have f:=p.symm.trans (text_eq e);have y:=qh (λ w' (k:EG w w')=>aM (aF c k) (z.below k));obtain⟨hn,hs,hl,ha,h,I,G⟩:=h;rename_i i g m n cs;have ru:=qh (λ w' (k:EG w w')=>N.o.keep (k.mono s));have O:(e.k == 1)=true:=by rw[d];rfl
 have Y:(e.k == 2)=false:=by rw[d];rfl
 have Z:(e.k == 3)=false:=by rw[d];rfl
 have aa:(e.k == 5)=false:=by rw[d];rfl
 have v:=qh (yL (wI o d));have r:=qh h;have D:=SN (wI o d);have K:=qh (show tx R=tx (Vtx.showT e.v.k e.v.n e.v.s.data.toList e.v.l) by rw[f,if_pos d]);clear h I G c z V X H q p f P o d D;show Calls Tryz.prog 212 #[.agg (BC e i g m e.ar.length n)] w _;go_enter Tryz.func212,Tryz.ntmps212;go_upto_region 1 with (fail);obtain⟨W,j⟩:=aH ((w.alloc (.cells (BC e i g m e.ar.length n) 67 (0,0))));have b:EG w W:=by rw[j];exact ((Below.refl _ w).alloc (aR _) _)
 have B0:ag W (w.heap.size) 67 (BC e i g m e.ar.length n):=by
  rw[j];have:=ag.new w 67 (BC e i g m e.ar.length n);exact this
 have x:W.heap.size=w.heap.size+1:=by rw[j];simp
 rw[<- j];obtain⟨E,S,Q,L,U,F,T,J⟩:=ag.c8 B0;clear j x;go_wp2_with fail;refine (NR e.v.k e.v.n e.v.s e.v.l _ i g B W rfl v.o.1 (by have:=v.o.2;omega) (by have:=v.o.2;omega) (r.o.below (b.mono s)) (aX s b.size) (y.o W b).1 (y.o W b).2).mono ?_;rintro C W1 ⟨⟨t,rfl,A⟩,u⟩;have M:=qh (NU A);clear A E S Q L U F T J B0;go_wp2_with fail;go_ret;exact⟨by rw[K.o,<- M.o];try rfl,b.trans (u.mono b.size)⟩
theorem ad7 (e:Ex) (c:e.k=2) (C:∀ a∈e.ar,fD 212 a) (D:∀ a∈e.ar,a.text.length<=1000000000) (u:∀ l,((insL l e.ar).map aL).sum+98*e.ar.length<=999999000) (o:e.ar.length<=999999) (s:jV e=0) (B:Nat) (cs:List Value) (w:World) (j:aQ w B e cs) (z:B<=w.heap.size) (b:Tab w) (r:Mx w) :
  CS 212 #[.agg cs.toArray] w (aD (tx (e.text))):=by
 have P:=lQ s;have y:=qh j;obtain⟨R,n⟩:=af (e.text);rw[n];have d:=n.symm.trans (text_eq e);have O:=qh (λ w' (g:EG w w')=>aM (aF b g) (r.below g));obtain⟨I,Q,M,T,j,v,t⟩:=j;rename_i k i h m cs;have J:=qh (λ w' (g:EG w w')=>y.o.keep (g.mono z));have A:(e.k == 1)=false:=by rw[c];rfl
 have E:(e.k == 2)=true:=by rw[c];rfl
 have G:(e.k == 3)=false:=by rw[c];rfl
 have H:(e.k == 5)=false:=by rw[c];rfl
 have x:=qh (show tx R=e.nm by rw[d,if_neg (by omega),if_pos c];exact (NU rfl).symm);clear j v t b r C D u o n d P s c;show Calls Tryz.prog 212 #[.agg (BC e k i h e.ar.length m)] w _;go_enter Tryz.func212,Tryz.ntmps212;go_upto_region 1 with (fail);obtain⟨W,f⟩:=aH ((w.alloc (.cells (BC e k i h e.ar.length m) 67 (0,0))));have p:EG w W:=by rw[f];exact ((Below.refl _ w).alloc (aR _) _)
 have B0:ag W (w.heap.size) 67 (BC e k i h e.ar.length m):=by
  rw[f];have:=ag.new w 67 (BC e k i h e.ar.length m);exact this
 have q:W.heap.size=w.heap.size+1:=by rw[f];simp
 rw[<- f];obtain⟨K,V,U,S,Y,L,X,N⟩:=ag.c8 B0;clear f q;clear B0;go_wp2_with fail;go_ret;exact⟨by rw[x.o];try rfl,p⟩
theorem ad8 (e:Ex) (c:e.k=3) (F:∀ a∈e.ar,fD 212 a) (G:∀ a∈e.ar,a.text.length<=1000000000) (x:∀ l,((insL l e.ar).map aL).sum+98*e.ar.length<=999999000) (p:e.ar.length<=999999) (s:jV e=0) (B:Nat) (cs:List Value) (w:World) (k:aQ w B e cs) (D:B<=w.heap.size) (b:Tab w) (u:Mx w) :
  CS 212 #[.agg cs.toArray] w (aD (tx (e.text))):=by
 have P:=lQ s;have C:=qh k;obtain⟨R,o⟩:=af (e.text);rw[o];have d:=o.symm.trans (text_eq e);have T:=qh (λ w' (h:EG w w')=>aM (aF b h) (u.below h));obtain⟨L,U,Q,X,k,y,v⟩:=k;rename_i m j i n cs;have M:=qh (λ w' (h:EG w w')=>C.o.keep (h.mono D));have E:(e.k == 1)=false:=by rw[c];rfl
 have H:(e.k == 2)=false:=by rw[c];rfl
 have J:(e.k == 3)=true:=by rw[c];rfl
 have K:(e.k == 5)=false:=by rw[c];rfl
 have f:=zU (sH s (.inr (.inl c)));have z:e.nm.size<=16:=by simpa using f
 have A:=qh (show tx R=⟨#[114,111,119,40]⟩ ++ e.nm ++ ⟨#[41]⟩ by rw[d,if_neg (by omega),if_neg (by omega),if_pos c,<- iP,<- iP,<- NU (t:=e.nm) rfl];rfl);clear k y v b u F G x p o d P s c f;show Calls Tryz.prog 212 #[.agg (BC e m j i e.ar.length n)] w _;go_enter Tryz.func212,Tryz.ntmps212;go_upto_region 1 with (fail);obtain⟨W,g⟩:=aH ((w.alloc (.cells (BC e m j i e.ar.length n) 67 (0,0))));have q:EG w W:=by rw[g];exact ((Below.refl _ w).alloc (aR _) _)
 have B0:ag W (w.heap.size) 67 (BC e m j i e.ar.length n):=by
  rw[g];have:=ag.new w 67 (BC e m j i e.ar.length n);exact this
 have r:W.heap.size=w.heap.size+1:=by rw[g];simp
 rw[<- g];obtain⟨N,Z,Y,V,iR,O,iU,S⟩:=ag.c8 B0;clear g r;clear B0;go_wp2_with fail;go_ret;exact⟨by rw[A.o];try rfl,q⟩
theorem abK (e:Ex) (k:e.k=4) (z:e.op=3) (V:∀ a∈e.ar,fD 212 a) (X:∀ a∈e.ar,a.text.length<=1000000000) (Q:∀ l,((insL l e.ar).map aL).sum+98*e.ar.length<=999999000) (D:e.ar.length<=999999) (Y:jV e=0) (B:Nat) (cs:List Value) (w:World) (q:aQ w B e cs) (r:B<=w.heap.size) (d:Tab w) (U:Mx w) :
  CS 212 #[.agg cs.toArray] w (aD (tx (e.text))):=by
 have P:=lQ Y;have HX:=qh q;obtain⟨R,C⟩:=af (e.text);rw[C];have c:=C.symm.trans (text_eq e);have T:=qh (λ w' (b:EG w w')=>aM (aF d b) (U.below b));obtain⟨hn,hs,hl,ha,q,S,O⟩:=q;rename_i s p m n cs;have ru:=qh (λ w' (b:EG w w')=>HX.o.keep (b.mono r));have aa:(e.k == 1)=false:=by rw[k];rfl
 have ab:(e.k == 2)=false:=by rw[k];rfl
 have ac:(e.k == 3)=false:=by rw[k];rfl
 have ad:(e.k == 5)=false:=by rw[k];rfl
 rw[if_neg (by omega),if_neg (by omega),if_neg (by omega),if_neg (by omega)] at c;rw[if_pos z] at c;have Z:=qh (show iE e=1 by unfold iE;rw[if_neg (by omega),if_neg (by omega)];simp[z]);have F:=P.a4 k;have M:=Q 2;have N:=qh (λ w' (b:EG w w')=>Cm e.ar [32,111,114,32] 2 V X (by omega) (by have:=rY (insL 2 e.ar) [32,111,114,32];rw[pG] at this;simp only[a0,a1] at this;omega) m n B cs w' (S.below (b.mono r)) (λ i h=>(O i h).keep (b.mono r)) (aX r b.size) (T.o w' b).1 (T.o w' b).2);obtain⟨t,j⟩:=af (tx (Lib.join (insL 2 e.ar) [32,111,114,32]));simp only[j] at N;have HR:=qh ((congrArg tx c).trans j);clear q S O d U V X Q D C c P Y k z F M j;show Calls Tryz.prog 212 #[.agg (BC e s p m e.ar.length n)] w _;go_enter Tryz.func212,Tryz.ntmps212;go_upto_region 1 with (fail);obtain⟨W,o⟩:=aH ((w.alloc (.cells (BC e s p m e.ar.length n) 67 (0,0))));have f:EG w W:=by rw[o];exact ((Below.refl _ w).alloc (aR _) _)
 have B0:ag W (w.heap.size) 67 (BC e s p m e.ar.length n):=by
  rw[o];have:=ag.new w 67 (BC e s p m e.ar.length n);exact this
 have G:W.heap.size=w.heap.size+1:=by rw[o];simp
 rw[<- o];obtain⟨u,I,H,E,K,v,J,y⟩:=ag.c8 B0;clear o G;go_wp2_with fail;refine (pI e B _ W (ru.o W f)).mono ?_;rw[Z.o];rintro L W1 ⟨rfl,g⟩;have A:=f.trans (g.mono f.size);have B0:=B0.below g B0.lt;clear u I H E K v J y g;obtain⟨u,I,H,E,K,v,J,y⟩:=ag.c8 B0;go_wp2_with fail;refine (N.o W1 A).mono ?_;rintro L W2 ⟨rfl,x⟩;clear u I H E K v J y B0;go_wp2_with fail;go_ret;exact⟨by rw[HR.o];try rfl,A.trans (x.mono A.size)⟩
theorem Yh (e:Ex) (k:e.k=4) (z:e.op=2) (V:∀ a∈e.ar,fD 212 a) (X:∀ a∈e.ar,a.text.length<=1000000000) (Q:∀ l,((insL l e.ar).map aL).sum+98*e.ar.length<=999999000) (D:e.ar.length<=999999) (Y:jV e=0) (B:Nat) (cs:List Value) (w:World) (q:aQ w B e cs) (r:B<=w.heap.size) (d:Tab w) (U:Mx w) :
  CS 212 #[.agg cs.toArray] w (aD (tx (e.text))):=by
 have P:=lQ Y;have HX:=qh q;obtain⟨R,C⟩:=af (e.text);rw[C];have c:=C.symm.trans (text_eq e);have T:=qh (λ w' (b:EG w w')=>aM (aF d b) (U.below b));obtain⟨hn,hs,hl,ha,q,S,O⟩:=q;rename_i s p m n cs;have ru:=qh (λ w' (b:EG w w')=>HX.o.keep (b.mono r));have aa:(e.k == 1)=false:=by rw[k];rfl
 have ab:(e.k == 2)=false:=by rw[k];rfl
 have ac:(e.k == 3)=false:=by rw[k];rfl
 have ad:(e.k == 5)=false:=by rw[k];rfl
 rw[if_neg (by omega),if_neg (by omega),if_neg (by omega),if_neg (by omega)] at c;rw[if_neg (by omega),if_pos z] at c;have Z:=qh (show iE e=2 by unfold iE;rw[if_neg (by omega),if_neg (by omega)];simp[z]);have F:=P.a4 k;have M:=Q 3;have N:=qh (λ w' (b:EG w w')=>Cm e.ar [32,97,110,100,32] 3 V X (by omega) (by have:=rY (insL 3 e.ar) [32,97,110,100,32];rw[pG] at this;simp only[a0,a1] at this;omega) m n B cs w' (S.below (b.mono r)) (λ i h=>(O i h).keep (b.mono r)) (aX r b.size) (T.o w' b).1 (T.o w' b).2);obtain⟨t,j⟩:=af (tx (Lib.join (insL 3 e.ar) [32,97,110,100,32]));simp only[j] at N;have HR:=qh ((congrArg tx c).trans j);clear q S O d U V X Q D C c P Y k z F M j;show Calls Tryz.prog 212 #[.agg (BC e s p m e.ar.length n)] w _;go_enter Tryz.func212,Tryz.ntmps212;go_upto_region 1 with (fail);obtain⟨W,o⟩:=aH ((w.alloc (.cells (BC e s p m e.ar.length n) 67 (0,0))));have f:EG w W:=by rw[o];exact ((Below.refl _ w).alloc (aR _) _)
 have B0:ag W (w.heap.size) 67 (BC e s p m e.ar.length n):=by
  rw[o];have:=ag.new w 67 (BC e s p m e.ar.length n);exact this
 have G:W.heap.size=w.heap.size+1:=by rw[o];simp
 rw[<- o];obtain⟨u,I,H,E,K,v,J,y⟩:=ag.c8 B0;clear o G;go_wp2_with fail;refine (pI e B _ W (ru.o W f)).mono ?_;rw[Z.o];rintro L W1 ⟨rfl,g⟩;have A:=f.trans (g.mono f.size);have B0:=B0.below g B0.lt;clear u I H E K v J y g;obtain⟨u,I,H,E,K,v,J,y⟩:=ag.c8 B0;go_wp2_with fail;refine (N.o W1 A).mono ?_;rintro L W2 ⟨rfl,x⟩;clear u I H E K v J y B0;go_wp2_with fail;go_ret;exact⟨by rw[HR.o];try rfl,A.trans (x.mono A.size)⟩
theorem Yi (e:Ex) (j:e.k=4) (x:4<=e.op/\e.op<=11) (O:∀ a∈e.ar,fD 212 a) (Q:∀ a∈e.ar,a.text.length<=1000000000) (X:∀ l,((insL l e.ar).map aL).sum+98*e.ar.length<=999999000) (A:e.ar.length<=999999) (T:jV e=0) (B:Nat) (cs:List Value) (w:World) (o:aQ w B e cs) (M:B<=w.heap.size) (f:Tab w) (N:Mx w) :
  CS 212 #[.agg cs.toArray] w (aD (tx (e.text))):=by
 have P:=lQ T;have HX:=qh o;obtain⟨R,z⟩:=af (e.text);rw[z];have c:=z.symm.trans (text_eq e);have L:=qh (λ w' (d:EG w w')=>aM (aF f d) (N.below d));obtain⟨hn,hs,hl,ha,o,Y,V⟩:=o;rename_i p n m q cs;have J:=qh (λ w' (d:EG w w')=>HX.o.keep (d.mono M));have aa:(e.k == 1)=false:=by rw[j];rfl
 have ab:(e.k == 2)=false:=by rw[j];rfl
 have ac:(e.k == 3)=false:=by rw[j];rfl
 have ad:(e.k == 5)=false:=by rw[j];rfl
 rw[if_neg (by omega),if_neg (by omega),if_neg (by omega),if_neg (by omega)] at c;rw[if_neg (by omega),if_neg (by omega),if_neg (by omega),if_pos x] at c;have U:=qh (show iE e=4 by unfold iE;rw[if_neg (by omega),if_neg (by omega)];rw[if_neg (by omega),if_neg (by omega),if_neg (by omega),if_pos x]);have b:=P.a4 j;have S:e.ar.length=2:=by
  unfold jL at b;rw[if_neg (by omega),if_neg (by omega),if_neg (by omega),if_pos (by omega)] at b;have h1:(2:Nat)<=e.ar.length:=b.1;have h3:e.ar.length<=(2:Nat):=b.2;omega
 have K:=qh (λ w' (d:EG w w')=>CB e 5 5 O Q S B _ w' (J.o w' d) (aX M d.size) (L.o w' d).1 (L.o w' d).2);obtain⟨t,i⟩:=af (tx ((insL 5 e.ar).getD 0 [] ++ [32] ++ dN e.op ++ [32] ++ (insL 5 e.ar).getD 1 []));simp only[i] at K;have Z:=qh ((congrArg tx c).trans i);clear o Y V f N O Q X A z c P T j x b S i;show Calls Tryz.prog 212 #[.agg (BC e p n m e.ar.length q)] w _;go_enter Tryz.func212,Tryz.ntmps212;go_upto_region 1 with (fail);obtain⟨W,k⟩:=aH ((w.alloc (.cells (BC e p n m e.ar.length q) 67 (0,0))));have g:EG w W:=by rw[k];exact ((Below.refl _ w).alloc (aR _) _)
 have B0:ag W (w.heap.size) 67 (BC e p n m e.ar.length q):=by
  rw[k];have:=ag.new w 67 (BC e p n m e.ar.length q);exact this
 have D:W.heap.size=w.heap.size+1:=by rw[k];simp
 rw[<- k];obtain⟨r,F,E,C,H,s,G,v⟩:=ag.c8 B0;clear k D;go_wp2_with fail;refine (pI e B _ W (J.o W g)).mono ?_;rw[U.o];rintro I W1 ⟨rfl,h⟩;have y:=g.trans (h.mono g.size);have B0:=B0.below h B0.lt;clear r F E C H s G v h;obtain⟨r,F,E,C,H,s,G,v⟩:=ag.c8 B0;go_wp2_with fail;refine (K.o W1 y).mono ?_;rintro I W2 ⟨rfl,u⟩;clear r F E C H s G v B0;go_wp2_with fail;go_ret;exact⟨by rw[Z.o];try rfl,y.trans (u.mono y.size)⟩
theorem Yj (e:Ex) (j:e.k=4) (x:e.op=15\/e.op=16) (O:∀ a∈e.ar,fD 212 a) (Q:∀ a∈e.ar,a.text.length<=1000000000) (X:∀ l,((insL l e.ar).map aL).sum+98*e.ar.length<=999999000) (A:e.ar.length<=999999) (T:jV e=0) (B:Nat) (cs:List Value) (w:World) (o:aQ w B e cs) (M:B<=w.heap.size) (f:Tab w) (N:Mx w) :
  CS 212 #[.agg cs.toArray] w (aD (tx (e.text))):=by
 have P:=lQ T;have HX:=qh o;obtain⟨R,z⟩:=af (e.text);rw[z];have c:=z.symm.trans (text_eq e);have L:=qh (λ w' (d:EG w w')=>aM (aF f d) (N.below d));obtain⟨hn,hs,hl,ha,o,Y,V⟩:=o;rename_i p n m q cs;have J:=qh (λ w' (d:EG w w')=>HX.o.keep (d.mono M));have aa:(e.k == 1)=false:=by rw[j];rfl
 have ab:(e.k == 2)=false:=by rw[j];rfl
 have ac:(e.k == 3)=false:=by rw[j];rfl
 have ad:(e.k == 5)=false:=by rw[j];rfl
 rw[if_neg (by omega),if_neg (by omega),if_neg (by omega),if_neg (by omega)] at c;rw[if_neg (by omega),if_neg (by omega),if_neg (by omega),if_neg (by omega),if_pos x] at c;have U:=qh (show iE e=5 by unfold iE;rw[if_neg (by omega),if_neg (by omega)];rw[if_neg (by omega),if_neg (by omega),if_neg (by omega),if_neg (by omega),if_pos x]);have b:=P.a4 j;have S:e.ar.length=2:=by
  unfold jL at b;rw[if_neg (by omega),if_neg (by omega),if_neg (by omega),if_pos (by omega)] at b;have h1:(2:Nat)<=e.ar.length:=b.1;have h3:e.ar.length<=(2:Nat):=b.2;omega
 have K:=qh (λ w' (d:EG w w')=>CB e 5 6 O Q S B _ w' (J.o w' d) (aX M d.size) (L.o w' d).1 (L.o w' d).2);obtain⟨t,i⟩:=af (tx ((insL 5 e.ar).getD 0 [] ++ [32] ++ dN e.op ++ [32] ++ (insL 6 e.ar).getD 1 []));simp only[i] at K;have Z:=qh ((congrArg tx c).trans i);clear o Y V f N O Q X A z c P T j x b S i;show Calls Tryz.prog 212 #[.agg (BC e p n m e.ar.length q)] w _;go_enter Tryz.func212,Tryz.ntmps212;go_upto_region 1 with (fail);obtain⟨W,k⟩:=aH ((w.alloc (.cells (BC e p n m e.ar.length q) 67 (0,0))));have g:EG w W:=by rw[k];exact ((Below.refl _ w).alloc (aR _) _)
 have B0:ag W (w.heap.size) 67 (BC e p n m e.ar.length q):=by
  rw[k];have:=ag.new w 67 (BC e p n m e.ar.length q);exact this
 have D:W.heap.size=w.heap.size+1:=by rw[k];simp
 rw[<- k];obtain⟨r,F,E,C,H,s,G,v⟩:=ag.c8 B0;clear k D;go_wp2_with fail;refine (pI e B _ W (J.o W g)).mono ?_;rw[U.o];rintro I W1 ⟨rfl,h⟩;have y:=g.trans (h.mono g.size);have B0:=B0.below h B0.lt;clear r F E C H s G v h;obtain⟨r,F,E,C,H,s,G,v⟩:=ag.c8 B0;go_wp2_with fail;refine (K.o W1 y).mono ?_;rintro I W2 ⟨rfl,u⟩;clear r F E C H s G v B0;go_wp2_with fail;go_ret;exact⟨by rw[Z.o];try rfl,y.trans (u.mono y.size)⟩
theorem U3 (e:Ex) (j:e.k=4) (x:e.op=17\/e.op=18\/e.op=19) (O:∀ a∈e.ar,fD 212 a) (Q:∀ a∈e.ar,a.text.length<=1000000000) (X:∀ l,((insL l e.ar).map aL).sum+98*e.ar.length<=999999000) (A:e.ar.length<=999999) (T:jV e=0) (B:Nat) (cs:List Value) (w:World) (o:aQ w B e cs) (M:B<=w.heap.size) (f:Tab w) (N:Mx w) :
  CS 212 #[.agg cs.toArray] w (aD (tx (e.text))):=by
 have P:=lQ T;have HX:=qh o;obtain⟨R,z⟩:=af (e.text);rw[z];have c:=z.symm.trans (text_eq e);have L:=qh (λ w' (d:EG w w')=>aM (aF f d) (N.below d));obtain⟨hn,hs,hl,ha,o,Y,V⟩:=o;rename_i p n m q cs;have J:=qh (λ w' (d:EG w w')=>HX.o.keep (d.mono M));have aa:(e.k == 1)=false:=by rw[j];rfl
 have ab:(e.k == 2)=false:=by rw[j];rfl
 have ac:(e.k == 3)=false:=by rw[j];rfl
 have ad:(e.k == 5)=false:=by rw[j];rfl
 rw[if_neg (by omega),if_neg (by omega),if_neg (by omega),if_neg (by omega)] at c;rw[if_neg (by omega),if_neg (by omega),if_neg (by omega),if_neg (by omega),if_neg (by omega),if_pos x] at c;have U:=qh (show iE e=6 by unfold iE;rw[if_neg (by omega),if_neg (by omega)];rw[if_neg (by omega),if_neg (by omega),if_neg (by omega),if_neg (by omega),if_neg (by omega),if_pos x]);have b:=P.a4 j;have S:e.ar.length=2:=by
  unfold jL at b;rw[if_neg (by omega),if_neg (by omega),if_neg (by omega),if_pos (by omega)] at b;have h1:(2:Nat)<=e.ar.length:=b.1;have h3:e.ar.length<=(2:Nat):=b.2;omega
 have K:=qh (λ w' (d:EG w w')=>CB e 6 7 O Q S B _ w' (J.o w' d) (aX M d.size) (L.o w' d).1 (L.o w' d).2);obtain⟨t,i⟩:=af (tx ((insL 6 e.ar).getD 0 [] ++ [32] ++ dN e.op ++ [32] ++ (insL 7 e.ar).getD 1 []));simp only[i] at K;have Z:=qh ((congrArg tx c).trans i);clear o Y V f N O Q X A z c P T j x b S i;show Calls Tryz.prog 212 #[.agg (BC e p n m e.ar.length q)] w _;go_enter Tryz.func212,Tryz.ntmps212;go_upto_region 1 with (fail);obtain⟨W,k⟩:=aH ((w.alloc (.cells (BC e p n m e.ar.length q) 67 (0,0))));have g:EG w W:=by rw[k];exact ((Below.refl _ w).alloc (aR _) _)
 have B0:ag W (w.heap.size) 67 (BC e p n m e.ar.length q):=by
  rw[k];have:=ag.new w 67 (BC e p n m e.ar.length q);exact this
 have D:W.heap.size=w.heap.size+1:=by rw[k];simp
 rw[<- k];obtain⟨r,F,E,C,H,s,G,v⟩:=ag.c8 B0;clear k D;go_wp2_with fail;refine (pI e B _ W (J.o W g)).mono ?_;rw[U.o];rintro I W1 ⟨rfl,h⟩;have y:=g.trans (h.mono g.size);have B0:=B0.below h B0.lt;clear r F E C H s G v h;obtain⟨r,F,E,C,H,s,G,v⟩:=ag.c8 B0;go_wp2_with fail;refine (K.o W1 y).mono ?_;rintro I W2 ⟨rfl,u⟩;clear r F E C H s G v B0;go_wp2_with fail;go_ret;exact⟨by rw[Z.o];try rfl,y.trans (u.mono y.size)⟩
theorem Yk (e:Ex) (p:e.k=4) (ho:e.op=1) (hI:∀ a∈e.ar,fD 212 a) (h9:∀ a∈e.ar,a.text.length<=1000000000) (hj:∀ l,((insL l e.ar).map aL).sum+98*e.ar.length<=999999000) (H:e.ar.length<=999999) (hP:jV e=0) (B:Nat) (cs:List Value) (w:World) (A:aQ w B e cs) (hB:B<=w.heap.size) (n:Tab w) (hm:Mx w) :
  CS 212 #[.agg cs.toArray] w (aD (tx (e.text))):=by
 have P:=lQ hP;have HX:=qh A;obtain⟨R,O⟩:=af (e.text);rw[O];have k:=O.symm.trans (text_eq e);have o8:=qh (λ w' (m:EG w w')=>aM (aF n m) (hm.below m));obtain⟨hn,hs,hl,ha,A,hr,hi⟩:=A;rename_i y q A2 s cs;have Z:=qh (λ w' (m:EG w w')=>HX.o.keep (m.mono hB));have am:(e.k == 1)=false:=by rw[p];rfl
 have an:(e.k == 2)=false:=by rw[p];rfl
 have av:(e.k == 3)=false:=by rw[p];rfl
 have ao:(e.k == 5)=false:=by rw[p];rfl
 rw[if_neg (by omega),if_neg (by omega),if_neg (by omega),if_neg (by omega)] at k;rw[if_neg (by omega),if_neg (by omega),if_pos ho] at k;have NY:=qh (show iE e=3 by unfold iE;rw[if_neg (by omega),if_neg (by omega)];simp[ho]);have f:=P.a4 p;have v:e.ar.length=1:=by
  unfold jL at f;rw[if_neg (by omega),if_neg (by omega),if_pos (by omega)] at f;have v:(1:Nat)<=e.ar.length:=f.1;have h3:e.ar.length<=(1:Nat):=f.2;omega
 obtain⟨ad,ap,rfl,ab,yO,d⟩:=yN hr hi (show 0<e.ar.length by omega);have hg:=xI 3 e.ar 0 (by omega);have hz:=h9 _ (aZ (show 0<e.ar.length by omega));have o:=hI _ (aZ (show 0<e.ar.length by omega));obtain⟨a,x⟩:=af (e.ar[0]);rw[x] at yO hg hz o;have tq:=qh yO;obtain⟨z1,z2,z3,z4,T,al,D⟩:=yO;rename_i A3 U N J aq;have g:∀ j u,(az a A3 U N J)[j]?=some u->w.cell? (ad.add j)=some u:=λ j u hu=>by have h:=d j u hu;rwa [a2,mf] at h
 have qJ:w.cell? (ad)=some (ay aA a.k):=g 0 _ rfl;have rU:w.cell? ⟨(ad).block,(ad).off+1,none⟩=some (ay aA a.op):=g 1 _ rfl;have x9:w.cell? ⟨(ad).block,(ad).off+2,none⟩=some (aD a.nm):=g 2 _ rfl;have AP:w.cell? ⟨(ad).block,(ad).off+3,none⟩=some (ay aA a.v.k):=g 3 _ rfl;have AQ:w.cell? ⟨(ad).block,(ad).off+4,none⟩=some (ay aA a.v.n):=g 4 _ rfl;have AU:w.cell? ⟨(ad).block,(ad).off+5,none⟩=some (aD a.v.s):=g 5 _ rfl;have AV:w.cell? ⟨(ad).block,(ad).off+6,none⟩=some (aE A3 a.v.l.length U):=g 6 _ rfl;have AZ:w.cell? ⟨(ad).block,(ad).off+7,none⟩=some (aE N a.ar.length J):=g 7 _ rfl;have ar:=qh v;obtain⟨t,i⟩:=af (tx (rW (decide (iE a<3)) a.text));have ae:=yM (decide (iE a<3)) a.text;have st:t.size<=2000000000:=by rw[<- i,lK];omega
 have HJ:=qh (λ w' (m:EG w w') cs' (F:aQ w' B a cs')=>sJ a 3 o hz B cs' w' F (aX hB m.size) (o8.o w' m).1 (o8.o w' m).2);simp only[i] at HJ;have HR:=qh (show tx R=⟨#[110,111,116,32]⟩ ++ t by rw[k,hg,<- i,<- iP];rfl);clear A hr hi n hm hI h9 hj H O k d g T al D ab x z1 z2 z3 z4 P hP p ho f hg hz o i ae;change Hid (∀ w',EG w w'->aQ w' B e [ay aA e.k,ay aA e.op,aD e.nm,ay aA e.v.k,ay aA e.v.n,aD e.v.s,aE y e.v.l.length q,aE (some ad) e.ar.length s]) at Z;rw[v] at Z;show Calls Tryz.prog 212 #[.agg (BC e y q (some ad) e.ar.length s)] w _;rw[v];clear v;go_enter Tryz.func212,Tryz.ntmps212;go_upto_region 1 with (fail);obtain⟨W,r⟩:=aH ((w.alloc (.cells (BC e y q (some ad) 1 s) 67 (0,0))));have b:EG w W:=by rw[r];exact ((Below.refl _ w).alloc (aR _) _)
 have B0:ag W (w.heap.size) 67 (BC e y q (some ad) 1 s):=by
  rw[r];have:=ag.new w 67 (BC e y q (some ad) 1 s);exact this
 have V:W.heap.size=w.heap.size+1:=by rw[r];simp
 rw[<- r];obtain⟨C,X,iM,iQ,Y,M,iU,E⟩:=ag.c8 B0;have Ls:W.cell? ad=some (ay aA a.k):=Below.cell_of b qJ;have Lt:W.cell? ⟨ad.block,ad.off+1,none⟩=some (ay aA a.op):=Below.cell_of b rU;have Lu:W.cell? ⟨ad.block,ad.off+2,none⟩=some (aD a.nm):=Below.cell_of b x9;have LC:W.cell? ⟨ad.block,ad.off+3,none⟩=some (ay aA a.v.k):=Below.cell_of b AP;have LD:W.cell? ⟨ad.block,ad.off+4,none⟩=some (ay aA a.v.n):=Below.cell_of b AQ;have LG:W.cell? ⟨ad.block,ad.off+5,none⟩=some (aD a.v.s):=Below.cell_of b AU;have LH:W.cell? ⟨ad.block,ad.off+6,none⟩=some (aE A3 a.v.l.length U):=Below.cell_of b AV;have LJ:W.cell? ⟨ad.block,ad.off+7,none⟩=some (aE N a.ar.length J):=Below.cell_of b AZ;clear r V qJ rU x9 AP AQ AU AV AZ;go_wp2_with fail;refine (pI e B _ W (Z.o W b)).mono ?_;rw[NY.o];rintro en W1 ⟨rfl,c⟩;have z:=b.trans (c.mono b.size);have B0:=B0.below c B0.lt;have G:=Below.cell_of c Ls;have ak:=Below.cell_of c Lt;have S:=Below.cell_of c Lu;have Q:=Below.cell_of c LC;have K:=Below.cell_of c LD;have L:=Below.cell_of c LG;have ac:=Below.cell_of c LH;have I:=Below.cell_of c LJ;clear C X iM iQ Y M iU E Ls Lt Lu LC LD LG LH LJ c;obtain⟨C,X,iM,iQ,Y,M,iU,E⟩:=ag.c8 B0;go_wp2_with fail;refine (HJ.o W1 z _ (tq.o.keep (z.mono hB))).mono ?_;rintro en W2 ⟨rfl,aa⟩;clear C X iM iQ Y M iU E G ak S Q K L ac I B0;go_wp2_with fail;go_ret;exact⟨by rw[HR.o];try rfl,z.trans (aa.mono z.size)⟩
theorem Yl (e:Ex) (s:e.k=4) (ho:e.op=20) (hI:∀ a∈e.ar,fD 212 a) (h9:∀ a∈e.ar,a.text.length<=1000000000) (hj:∀ l,((insL l e.ar).map aL).sum+98*e.ar.length<=999999000) (M:e.ar.length<=999999) (hP:jV e=0) (B:Nat) (cs:List Value) (w:World) (F:aQ w B e cs) (hB:B<=w.heap.size) (o:Tab w) (hm:Mx w) :
  CS 212 #[.agg cs.toArray] w (aD (tx (e.text))):=by
 have P:=lQ hP;have HX:=qh F;obtain⟨R,V⟩:=af (e.text);rw[V];have k:=V.symm.trans (text_eq e);have o8:=qh (λ w' (n:EG w w')=>aM (aF o n) (hm.below n));obtain⟨hn,hs,hl,ha,F,hr,hi⟩:=F;rename_i D y A2 A cs;have ru:=qh (λ w' (n:EG w w')=>HX.o.keep (n.mono hB));have ao:(e.k == 1)=false:=by rw[s];rfl
 have ap:(e.k == 2)=false:=by rw[s];rfl
 have ax:(e.k == 3)=false:=by rw[s];rfl
 have aq:(e.k == 5)=false:=by rw[s];rfl
 rw[if_neg (by omega),if_neg (by omega),if_neg (by omega),if_neg (by omega)] at k;rw[if_neg (by omega),if_neg (by omega),if_neg (by omega),if_neg (by omega),if_neg (by omega),if_neg (by omega),if_pos ho] at k;have NY:=qh (show iE e=7 by unfold iE;rw[if_neg (by omega),if_neg (by omega)];simp[ho]);have g:=P.a4 s;have v:e.ar.length=1:=by
  unfold jL at g;rw[if_neg (by omega),if_neg (by omega),if_pos (by omega)] at g;have v:(1:Nat)<=e.ar.length:=g.1;have h3:e.ar.length<=(1:Nat):=g.2;omega
 obtain⟨ad,ar,rfl,ac,yO,f⟩:=yN hr hi (show 0<e.ar.length by omega);have hg:=xI 7 e.ar 0 (by omega);have hz:=h9 _ (aZ (show 0<e.ar.length by omega));have r:=hI _ (aZ (show 0<e.ar.length by omega));obtain⟨a,m⟩:=af (e.ar[0]);rw[m] at yO hg hz r;have tq:=qh yO;obtain⟨z1,z2,z3,z4,Z,an,H⟩:=yO;rename_i A3 c3 U O av;have i:∀ j u,(az a A3 c3 U O)[j]?=some u->w.cell? (ad.add j)=some u:=λ j u hu=>by have h:=f j u hu;rwa [a2,mf] at h
 have qJ:w.cell? (ad)=some (ay aA a.k):=i 0 _ rfl;have rU:w.cell? ⟨(ad).block,(ad).off+1,none⟩=some (ay aA a.op):=i 1 _ rfl;have x9:w.cell? ⟨(ad).block,(ad).off+2,none⟩=some (aD a.nm):=i 2 _ rfl;have AP:w.cell? ⟨(ad).block,(ad).off+3,none⟩=some (ay aA a.v.k):=i 3 _ rfl;have AQ:w.cell? ⟨(ad).block,(ad).off+4,none⟩=some (ay aA a.v.n):=i 4 _ rfl;have AU:w.cell? ⟨(ad).block,(ad).off+5,none⟩=some (aD a.v.s):=i 5 _ rfl;have AV:w.cell? ⟨(ad).block,(ad).off+6,none⟩=some (aE A3 a.v.l.length c3):=i 6 _ rfl;have AZ:w.cell? ⟨(ad).block,(ad).off+7,none⟩=some (aE U a.ar.length O):=i 7 _ rfl;have aw:=qh v;obtain⟨t,p⟩:=af (tx ((if a.k=1/\a.v.k=2/\0<=a.v.n then [45,40] ++ a.text ++ [41] else [45] ++ rW (decide (iE a<7)) a.text)));have ak:=yM (decide (iE a<7)) a.text;have HJ:=qh (λ w' (n:EG w w') cs' (J:aQ w' B a cs')=>Qx a r hz B cs' w' J (aX hB n.size) (o8.o w' n).1 (o8.o w' n).2);simp only[p] at HJ;have q:=xI 0 e.ar 0 (by omega);have C:JJ e.ar=(decide (a.k=1) && (decide (a.v.k=2) && decide (0<=a.v.n))):=by
  match hr':e.ar,v with
  | [x],_=>(have K:x=a:=by have h:=m;simp only[hr'] at h;exact h);rw[K];rfl
 rw[m] at q;have al:=XG a;have HR:=qh (show tx R=t by
  rw[k,hg,q,C,<- p];congr 1;by_cases c:a.k=1/\a.v.k=2/\0<=a.v.n
  .rw[if_pos c,if_pos (by simp[c.1,c.2.1,c.2.2])];unfold rW;rw[decide_eq_false (by omega)];rfl
  .rw[if_neg c,if_neg (by simp only[Bool.and_eq_true,decide_eq_true_iff];exact c)])
 clear q C al;clear F hr hi o hm hI h9 hj M V k f i Z an H ac m z1 z2 z3 z4 P hP s ho g hg hz r p ak;change Hid (∀ w',EG w w'->aQ w' B e [ay aA e.k,ay aA e.op,aD e.nm,ay aA e.v.k,ay aA e.v.n,aD e.v.s,aE D e.v.l.length y,aE (some ad) e.ar.length A]) at ru;rw[v] at ru;show Calls Tryz.prog 212 #[.agg (BC e D y (some ad) e.ar.length A)] w _;rw[v];clear v;go_enter Tryz.func212,Tryz.ntmps212;go_upto_region 1 with (fail);obtain⟨W,z⟩:=aH ((w.alloc (.cells (BC e D y (some ad) 1 A) 67 (0,0))));have b:EG w W:=by rw[z];exact ((Below.refl _ w).alloc (aR _) _)
 have B0:ag W (w.heap.size) 67 (BC e D y (some ad) 1 A):=by
  rw[z];have:=ag.new w 67 (BC e D y (some ad) 1 A);exact this
 have aa:W.heap.size=w.heap.size+1:=by rw[z];simp
 rw[<- z];obtain⟨G,iL,iM,iQ,iR,T,iU,I⟩:=ag.c8 B0;have Ls:W.cell? ad=some (ay aA a.k):=Below.cell_of b qJ;have Lt:W.cell? ⟨ad.block,ad.off+1,none⟩=some (ay aA a.op):=Below.cell_of b rU;have Lu:W.cell? ⟨ad.block,ad.off+2,none⟩=some (aD a.nm):=Below.cell_of b x9;have LC:W.cell? ⟨ad.block,ad.off+3,none⟩=some (ay aA a.v.k):=Below.cell_of b AP;have LD:W.cell? ⟨ad.block,ad.off+4,none⟩=some (ay aA a.v.n):=Below.cell_of b AQ;have LG:W.cell? ⟨ad.block,ad.off+5,none⟩=some (aD a.v.s):=Below.cell_of b AU;have LH:W.cell? ⟨ad.block,ad.off+6,none⟩=some (aE A3 a.v.l.length c3):=Below.cell_of b AV;have LJ:W.cell? ⟨ad.block,ad.off+7,none⟩=some (aE U a.ar.length O):=Below.cell_of b AZ;clear z aa qJ rU x9 AP AQ AU AV AZ;go_wp2_with fail;refine (pI e B _ W (ru.o W b)).mono ?_;rw[NY.o];rintro en W1 ⟨rfl,d⟩;have E:=b.trans (d.mono b.size);have B0:=B0.below d B0.lt;have L:=Below.cell_of d Ls;have am:=Below.cell_of d Lt;have Y:=Below.cell_of d Lu;have X:=Below.cell_of d LC;have Q:=Below.cell_of d LD;have S:=Below.cell_of d LG;have ae:=Below.cell_of d LH;have N:=Below.cell_of d LJ;clear G iL iM iQ iR T iU I Ls Lt Lu LC LD LG LH LJ d;obtain⟨G,iL,iM,iQ,iR,T,iU,I⟩:=ag.c8 B0;go_wp2_with fail;refine (HJ.o W1 E _ (tq.o.keep (E.mono hB))).mono ?_;rintro en W2 ⟨rfl,ab⟩;clear G iL iM iQ iR T iU I L am Y X Q S ae N B0;go_wp2_with fail;go_ret;exact⟨by rw[HR.o];try rfl,E.trans (ab.mono E.size)⟩
theorem Ym (e:Ex) (u:e.k=4) (ho:(12<=e.op/\e.op<=14)\/21<=e.op) (M:∀ a∈e.ar,fD 212 a) (Q:∀ a∈e.ar,a.text.length<=1000000000) (J:∀ l,((insL l e.ar).map aL).sum+98*e.ar.length<=999999000) (D:e.ar.length<=999999) (N:jV e=0) (B:Nat) (cs:List Value) (w:World) (z:aQ w B e cs) (A:B<=w.heap.size) (j:Tab w) (L:Mx w) :
  CS 212 #[.agg cs.toArray] w (aD (tx (e.text))):=by
 have P:=lQ N;have HX:=qh z;obtain⟨R,F⟩:=af (e.text);rw[F];have d:=F.symm.trans (text_eq e);have K:=qh (λ w' (b:EG w w')=>aM (aF j b) (L.below b));obtain⟨hn,hs,hl,ha,z,S,O⟩:=z;rename_i C x m n cs;have ru:=qh (λ w' (b:EG w w')=>HX.o.keep (b.mono A));have V:(e.k == 1)=false:=by rw[u];rfl
 have X:(e.k == 2)=false:=by rw[u];rfl
 have aa:(e.k == 3)=false:=by rw[u];rfl
 have Y:(e.k == 5)=false:=by rw[u];rfl
 rw[if_neg (by omega),if_neg (by omega),if_neg (by omega),if_neg (by omega)] at d;rw[if_neg (by omega),if_neg (by omega),if_neg (by omega),if_neg (by omega),if_neg (by omega),if_neg (by omega),if_neg (by omega)] at d;have NY:=qh (show iE e=8 by unfold iE;rw[if_neg (by omega),if_neg (by omega)];rw[if_neg (by omega),if_neg (by omega),if_neg (by omega),if_neg (by omega),if_neg (by omega),if_neg (by omega),if_neg (by omega)]);have I:=J 1;have p:=rY (insL 1 e.ar) [44,32];rw[pG] at p;simp only[a0,a1] at p;have E:=qh (λ w' (b:EG w w')=>Cm e.ar [44,32] 1 M Q (by omega) (by omega) m n B cs w' (S.below (b.mono A)) (λ i h=>(O i h).keep (b.mono A)) (aX A b.size) (K.o w' b).1 (K.o w' b).2);obtain⟨t,c⟩:=af (tx (Lib.join (insL 1 e.ar) [44,32]));obtain⟨H,f⟩:=af (tx (uY e.op));simp only[c] at E;have st:t.size<=2000000000:=by rw[<- c,lK];omega
 have sf:H.size<=8:=by rw[<- f,lK];exact SQ e.op
 have WL:=qh f;have HR:=qh (show tx R=H ++ ⟨#[40]⟩ ++ t ++ ⟨#[41]⟩ by rw[d,<- c,<- f,<- iP,<- iP,<- iP];rfl);clear z S O j L M Q J D F d P N u ho I p c f;show Calls Tryz.prog 212 #[.agg (BC e C x m e.ar.length n)] w _;go_enter Tryz.func212,Tryz.ntmps212;go_upto_region 1 with (fail);obtain⟨W,v⟩:=aH ((w.alloc (.cells (BC e C x m e.ar.length n) 67 (0,0))));have k:EG w W:=by rw[v];exact ((Below.refl _ w).alloc (aR _) _)
 have B0:ag W (w.heap.size) 67 (BC e C x m e.ar.length n):=by
  rw[v];have:=ag.new w 67 (BC e C x m e.ar.length n);exact this
 have G:W.heap.size=w.heap.size+1:=by rw[v];simp
 rw[<- v];obtain⟨T,iL,iM,iQ,iR,Z,iU,U⟩:=ag.c8 B0;clear v G;go_wp2_with fail;refine (pI e B _ W (ru.o W k)).mono ?_;rw[NY.o];rintro r g ⟨rfl,q⟩;have y:=k.trans (q.mono k.size);have B0:=B0.below q B0.lt;clear T iL iM iQ iR Z iU U q;have K1:=qh (Later.call (W:=g) (show ∀ w',EG g w'->Calls Tryz.prog 239 #[aE m e.ar.length n,aD ⟨#[44,32]⟩,ay aA 1] w' λ r o=>r = .returned (aD t)/\EG w' o from λ w' b=>E.o w' (y.trans (b.mono y.size))));have K2:=qh (Later.call (W:=g) (show ∀ w',EG g w'->Calls Tryz.prog 243 #[ay aA e.op] w' λ r o=>r = .returned (aD H)/\EG w' o from λ w' b=>by have h:=JU e.op w';rwa [WL.o] at h));have q0:=Later.cell (show g.cell? ⟨w.heap.size,1,none⟩=some (ay aA e.op) from B0.cell 1);have q1:=Later.cell (show g.cell? ⟨w.heap.size,7,none⟩=some (aE m e.ar.length n) from B0.cell 7);clear B0 E;go_upto_region 25 with (fail);refine aO (by kernel_rfl) (by kernel_rfl) ?_
 repeat (go_big_quiet_step (first | with_reducible exact K1.o _ | with_reducible exact K2.o _))
 refine wpQuiet_nil ?_;intro W9 s;have jl:=jg s;clear s;go_wp2_with fail;go_ret;exact⟨by rw[HR.o];try rfl,y.trans (jl.mono y.size)⟩
end Go.Proofs.YtcnagconagpkcaaGreatDoor
