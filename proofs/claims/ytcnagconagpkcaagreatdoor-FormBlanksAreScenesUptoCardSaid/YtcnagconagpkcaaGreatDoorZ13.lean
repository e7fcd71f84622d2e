/- Lemmas. -/
import Derived.Test.YtcnagconagpkcaaGreatDoorZ12
set_option maxHeartbeats 4000000
set_option maxRecDepth 100000
open Go.Value renaming int->aM, string->aW, slice->a0
open Go.IntKind renaming i64->aR
open List renaming length->a1, getElem_mem->a6, length_cons->a7, length_nil->a8
open And renaming intro->a2
open Nat renaming le_refl->a3, le_trans->a5, zero_mul->a9
namespace Go.Proofs.YtcnagconagpkcaaGreatDoor
open Go.RowKit
attribute [local go_sem ↓] Go.wp_at_zero Go.wp_at_succ
theorem ae3 (e:Ex) (d:e.k=1) (Z:∀ a∈e.ar,fG 212 a) (E:∀ a∈e.ar,a.text.length<=1000000000) (K:∀ l,((insL l e.ar).map a1).sum+98*e.ar.length<=999999000) (p:e.ar.length<=999999) (n:jQ e=0) (B:Nat) (cs:List Value) (w:World) (i:aZ w B e cs) (r:B<=w.heap.size) (c:Tab w) (z:Mx w) :
  IE 212 #[.agg cs.toArray] w (aW (tx (e.text))):=by
 have P:=kG n;have G:=qh i;obtain⟨R,x⟩:=af (e.text);rw[x];have f:=x.symm.trans (text_eq e);have y:=qh (λ w' (o:IY w w')=>a2 (aA c o) (z.below o));obtain⟨hn,hs,hl,ha,i,H,hi⟩:=i;rename_i g j k m cs;have qN:=qh (λ w' (o:IY w w')=>G.o.keep (o.mono r));have I:(e.k == 1)=true:=by rw[d];rfl
 have M:(e.k == 2)=false:=by rw[d];rfl
 have X:(e.k == 3)=false:=by rw[d];rfl
 have T:(e.k == 5)=false:=by rw[d];rfl
 have s:=qh (zB (xC n d));have v:=qh i;have F:=TF (xC n d);have S:=qh (show tx R=tx (Vtx.showT e.v.k e.v.n e.v.s.data.toList e.v.l) by rw[f,if_pos d]);clear i H hi c z Z E K p x f P n d F;show Calls Tryz.prog 212 #[.agg (BC e g j k e.ar.length m)] w _;go_enter Tryz.func212,Tryz.ntmps212;go_upto_region 1 with (fail);obtain⟨W,h⟩:=aC ((w.alloc (.cells (BC e g j k e.ar.length m) 67 (0,0))));have b:IY w W:=by rw[h];exact ((Below.refl _ w).alloc (a3 _) _)
 have B0:ah W (w.heap.size) 67 (BC e g j k e.ar.length m):=by
  rw[h];have:=ah.new w 67 (BC e g j k e.ar.length m);exact this
 have u:W.heap.size=w.heap.size+1:=by rw[h];simp
 rw[<- h];obtain⟨O,Y,V,U,N,L,Q,D⟩:=ah.c8 B0;clear h u;go_wp2_with fail;refine (OM e.v.k e.v.n e.v.s e.v.l _ g j B W rfl s.o.1 (by have:=s.o.2;omega) (by have:=s.o.2;omega) (v.o.below (b.mono r)) (a5 r b.size) (y.o W b).1 (y.o W b).2).mono ?_;rintro C W1 ⟨⟨t,rfl,A⟩,q⟩;have J:=qh (OQ A);clear A O Y V U N L Q D B0;go_wp2_with fail;go_ret;exact⟨by rw[S.o,<- J.o];try rfl,b.trans (q.mono b.size)⟩
theorem ae4 (e:Ex) (c:e.k=2) (F:∀ a∈e.ar,fG 212 a) (t:∀ a∈e.ar,a.text.length<=1000000000) (y:∀ l,((insL l e.ar).map a1).sum+98*e.ar.length<=999999000) (n:e.ar.length<=999999) (s:jQ e=0) (B:Nat) (cs:List Value) (w:World) (k:aZ w B e cs) (z:B<=w.heap.size) (b:Tab w) (r:Mx w) :
  IE 212 #[.agg cs.toArray] w (aW (tx (e.text))):=by
 have P:=kG s;have u:=qh k;obtain⟨R,q⟩:=af (e.text);rw[q];have d:=q.symm.trans (text_eq e);have J:=qh (λ w' (j:IY w w')=>a2 (aA b j) (r.below j));obtain⟨S,Y,V,K,k,v,H⟩:=k;rename_i i m g h cs;have N:=qh (λ w' (j:IY w w')=>u.o.keep (j.mono z));have x:(e.k == 1)=false:=by rw[c];rfl
 have A:(e.k == 2)=true:=by rw[c];rfl
 have E:(e.k == 3)=false:=by rw[c];rfl
 have D:(e.k == 5)=false:=by rw[c];rfl
 have C:=qh (show tx R=e.nm by rw[d,if_neg (by omega),if_pos c];exact (OQ rfl).symm);clear k v H b r F t y n q d P s c;show Calls Tryz.prog 212 #[.agg (BC e i m g e.ar.length h)] w _;go_enter Tryz.func212,Tryz.ntmps212;go_upto_region 1 with (fail);obtain⟨W,f⟩:=aC ((w.alloc (.cells (BC e i m g e.ar.length h) 67 (0,0))));have o:IY w W:=by rw[f];exact ((Below.refl _ w).alloc (a3 _) _)
 have B0:ah W (w.heap.size) 67 (BC e i m g e.ar.length h):=by
  rw[f];have:=ah.new w 67 (BC e i m g e.ar.length h);exact this
 have p:W.heap.size=w.heap.size+1:=by rw[f];simp
 rw[<- f];obtain⟨O,X,U,T,M,L,Q,I⟩:=ah.c8 B0;clear f p;clear B0;go_wp2_with fail;go_ret;exact⟨by rw[C.o];try rfl,o⟩
theorem ae5 (e:Ex) (c:e.k=3) (I:∀ a∈e.ar,fG 212 a) (v:∀ a∈e.ar,a.text.length<=1000000000) (A:∀ l,((insL l e.ar).map a1).sum+98*e.ar.length<=999999000) (o:e.ar.length<=999999) (p:jQ e=0) (B:Nat) (cs:List Value) (w:World) (m:aZ w B e cs) (C:B<=w.heap.size) (b:Tab w) (u:Mx w) :
  IE 212 #[.agg cs.toArray] w (aW (tx (e.text))):=by
 have P:=kG p;have x:=qh m;obtain⟨R,s⟩:=af (e.text);rw[s];have d:=s.symm.trans (text_eq e);have M:=qh (λ w' (k:IY w w')=>a2 (aA b k) (u.below k));obtain⟨V,hs,Z,N,m,y,K⟩:=m;rename_i j n h i cs;have S:=qh (λ w' (k:IY w w')=>x.o.keep (k.mono C));have z:(e.k == 1)=false:=by rw[c];rfl
 have D:(e.k == 2)=false:=by rw[c];rfl
 have H:(e.k == 3)=true:=by rw[c];rfl
 have G:(e.k == 5)=false:=by rw[c];rfl
 have f:=Bf (sS p (.inr (.inl c)));have E:e.nm.size<=16:=by simpa using f
 have F:=qh (show tx R=⟨#[114,111,119,40]⟩ ++ e.nm ++ ⟨#[41]⟩ by rw[d,if_neg (by omega),if_neg (by omega),if_pos c,<- iV,<- iV,<- OQ (t:=e.nm) rfl];rfl);clear m y K b u I v A o s d P p c f;show Calls Tryz.prog 212 #[.agg (BC e j n h e.ar.length i)] w _;go_enter Tryz.func212,Tryz.ntmps212;go_upto_region 1 with (fail);obtain⟨W,g⟩:=aC ((w.alloc (.cells (BC e j n h e.ar.length i) 67 (0,0))));have q:IY w W:=by rw[g];exact ((Below.refl _ w).alloc (a3 _) _)
 have B0:ah W (w.heap.size) 67 (BC e j n h e.ar.length i):=by
  rw[g];have:=ah.new w 67 (BC e j n h e.ar.length i);exact this
 have r:W.heap.size=w.heap.size+1:=by rw[g];simp
 rw[<- g];obtain⟨T,fZ,Y,X,Q,O,U,L⟩:=ah.c8 B0;clear g r;clear B0;go_wp2_with fail;go_ret;exact⟨by rw[F.o];try rfl,q⟩
theorem acd (e:Ex) (k:e.k=4) (C:e.op=3) (X:∀ a∈e.ar,fG 212 a) (O:∀ a∈e.ar,a.text.length<=1000000000) (T:∀ l,((insL l e.ar).map a1).sum+98*e.ar.length<=999999000) (v:e.ar.length<=999999) (U:jQ e=0) (B:Nat) (cs:List Value) (w:World) (r:aZ w B e cs) (q:B<=w.heap.size) (d:Tab w) (Q:Mx w) :
  IE 212 #[.agg cs.toArray] w (aW (tx (e.text))):=by
 have P:=kG U;have Z:=qh r;obtain⟨R,L⟩:=af (e.text);rw[L];have c:=L.symm.trans (text_eq e);have N:=qh (λ w' (b:IY w w')=>a2 (aA d b) (Q.below b));obtain⟨hn,hs,hl,ha,r,S,Y⟩:=r;rename_i p s m n cs;have qN:=qh (λ w' (b:IY w w')=>Z.o.keep (b.mono q));have aa:(e.k == 1)=false:=by rw[k];rfl
 have ab:(e.k == 2)=false:=by rw[k];rfl
 have ad:(e.k == 3)=false:=by rw[k];rfl
 have ac:(e.k == 5)=false:=by rw[k];rfl
 rw[if_neg (by omega),if_neg (by omega),if_neg (by omega),if_neg (by omega)] at c;rw[if_pos C] at c;have OW:=qh (show iL e=1 by unfold iL;rw[if_neg (by omega),if_neg (by omega)];simp[C]);have E:=P.a4 k;have K:=T 2;have V:=qh (λ w' (b:IY w w')=>Dn e.ar [32,111,114,32] 2 X O (by omega) (by have:=sH (insL 2 e.ar) [32,111,114,32];rw[pU] at this;simp only[a7,a8] at this;omega) m n B cs w' (S.below (b.mono q)) (λ i h=>(Y i h).keep (b.mono q)) (a5 q b.size) (N.o w' b).1 (N.o w' b).2);obtain⟨t,g⟩:=af (tx (Lib.join (insL 2 e.ar) [32,111,114,32]));simp only[g] at V;have HR:=qh ((congrArg tx c).trans g);clear r S Y d Q X O T v L c P U k C E K g;show Calls Tryz.prog 212 #[.agg (BC e p s m e.ar.length n)] w _;go_enter Tryz.func212,Tryz.ntmps212;go_upto_region 1 with (fail);obtain⟨W,o⟩:=aC ((w.alloc (.cells (BC e p s m e.ar.length n) 67 (0,0))));have j:IY w W:=by rw[o];exact ((Below.refl _ w).alloc (a3 _) _)
 have B0:ah W (w.heap.size) 67 (BC e p s m e.ar.length n):=by
  rw[o];have:=ah.new w 67 (BC e p s m e.ar.length n);exact this
 have F:W.heap.size=w.heap.size+1:=by rw[o];simp
 rw[<- o];obtain⟨A,I,H,G,z,x,D,u⟩:=ah.c8 B0;clear o F;go_wp2_with fail;refine (pV e B _ W (qN.o W j)).mono ?_;rw[OW.o];rintro M W1 ⟨rfl,f⟩;have J:=j.trans (f.mono j.size);have B0:=B0.below f B0.lt;clear A I H G z x D u f;obtain⟨A,I,H,G,z,x,D,u⟩:=ah.c8 B0;go_wp2_with fail;refine (V.o W1 J).mono ?_;rintro M W2 ⟨rfl,y⟩;clear A I H G z x D u B0;go_wp2_with fail;go_ret;exact⟨by rw[HR.o];try rfl,J.trans (y.mono J.size)⟩
theorem YG (e:Ex) (k:e.k=4) (C:e.op=2) (X:∀ a∈e.ar,fG 212 a) (O:∀ a∈e.ar,a.text.length<=1000000000) (T:∀ l,((insL l e.ar).map a1).sum+98*e.ar.length<=999999000) (v:e.ar.length<=999999) (U:jQ e=0) (B:Nat) (cs:List Value) (w:World) (r:aZ w B e cs) (q:B<=w.heap.size) (d:Tab w) (Q:Mx w) :
  IE 212 #[.agg cs.toArray] w (aW (tx (e.text))):=by
 have P:=kG U;have Z:=qh r;obtain⟨R,L⟩:=af (e.text);rw[L];have c:=L.symm.trans (text_eq e);have N:=qh (λ w' (b:IY w w')=>a2 (aA d b) (Q.below b));obtain⟨hn,hs,hl,ha,r,S,Y⟩:=r;rename_i p s m n cs;have qN:=qh (λ w' (b:IY w w')=>Z.o.keep (b.mono q));have aa:(e.k == 1)=false:=by rw[k];rfl
 have ab:(e.k == 2)=false:=by rw[k];rfl
 have ad:(e.k == 3)=false:=by rw[k];rfl
 have ac:(e.k == 5)=false:=by rw[k];rfl
 rw[if_neg (by omega),if_neg (by omega),if_neg (by omega),if_neg (by omega)] at c;rw[if_neg (by omega),if_pos C] at c;have OW:=qh (show iL e=2 by unfold iL;rw[if_neg (by omega),if_neg (by omega)];simp[C]);have E:=P.a4 k;have K:=T 3;have V:=qh (λ w' (b:IY w w')=>Dn e.ar [32,97,110,100,32] 3 X O (by omega) (by have:=sH (insL 3 e.ar) [32,97,110,100,32];rw[pU] at this;simp only[a7,a8] at this;omega) m n B cs w' (S.below (b.mono q)) (λ i h=>(Y i h).keep (b.mono q)) (a5 q b.size) (N.o w' b).1 (N.o w' b).2);obtain⟨t,g⟩:=af (tx (Lib.join (insL 3 e.ar) [32,97,110,100,32]));simp only[g] at V;have HR:=qh ((congrArg tx c).trans g);clear r S Y d Q X O T v L c P U k C E K g;show Calls Tryz.prog 212 #[.agg (BC e p s m e.ar.length n)] w _;go_enter Tryz.func212,Tryz.ntmps212;go_upto_region 1 with (fail);obtain⟨W,o⟩:=aC ((w.alloc (.cells (BC e p s m e.ar.length n) 67 (0,0))));have j:IY w W:=by rw[o];exact ((Below.refl _ w).alloc (a3 _) _)
 have B0:ah W (w.heap.size) 67 (BC e p s m e.ar.length n):=by
  rw[o];have:=ah.new w 67 (BC e p s m e.ar.length n);exact this
 have F:W.heap.size=w.heap.size+1:=by rw[o];simp
 rw[<- o];obtain⟨A,I,H,G,z,x,D,u⟩:=ah.c8 B0;clear o F;go_wp2_with fail;refine (pV e B _ W (qN.o W j)).mono ?_;rw[OW.o];rintro M W1 ⟨rfl,f⟩;have J:=j.trans (f.mono j.size);have B0:=B0.below f B0.lt;clear A I H G z x D u f;obtain⟨A,I,H,G,z,x,D,u⟩:=ah.c8 B0;go_wp2_with fail;refine (V.o W1 J).mono ?_;rintro M W2 ⟨rfl,y⟩;clear A I H G z x D u B0;go_wp2_with fail;go_ret;exact⟨by rw[HR.o];try rfl,J.trans (y.mono J.size)⟩
theorem YH (e:Ex) (j:e.k=4) (z:4<=e.op/\e.op<=11) (T:∀ a∈e.ar,fG 212 a) (L:∀ a∈e.ar,a.text.length<=1000000000) (Z:∀ l,((insL l e.ar).map a1).sum+98*e.ar.length<=999999000) (s:e.ar.length<=999999) (N:jQ e=0) (B:Nat) (cs:List Value) (w:World) (p:aZ w B e cs) (O:B<=w.heap.size) (f:Tab w) (M:Mx w) :
  IE 212 #[.agg cs.toArray] w (aW (tx (e.text))):=by
 have P:=kG N;have U:=qh p;obtain⟨R,H⟩:=af (e.text);rw[H];have c:=H.symm.trans (text_eq e);have J:=qh (λ w' (d:IY w w')=>a2 (aA f d) (M.below d));obtain⟨hn,hs,hl,ha,p,V,hi⟩:=p;rename_i o q m n cs;have Q:=qh (λ w' (d:IY w w')=>U.o.keep (d.mono O));have X:(e.k == 1)=false:=by rw[j];rfl
 have aa:(e.k == 2)=false:=by rw[j];rfl
 have ac:(e.k == 3)=false:=by rw[j];rfl
 have ab:(e.k == 5)=false:=by rw[j];rfl
 rw[if_neg (by omega),if_neg (by omega),if_neg (by omega),if_neg (by omega)] at c;rw[if_neg (by omega),if_neg (by omega),if_neg (by omega),if_pos z] at c;have OW:=qh (show iL e=4 by unfold iL;rw[if_neg (by omega),if_neg (by omega)];rw[if_neg (by omega),if_neg (by omega),if_neg (by omega),if_pos z]);have b:=P.a4 j;have K:e.ar.length=2:=by
  unfold gV at b;rw[if_neg (by omega),if_neg (by omega),if_neg (by omega),if_pos (by omega)] at b;have h1:(2:Nat)<=e.ar.length:=b.1;have h3:e.ar.length<=(2:Nat):=b.2;omega
 have S:=qh (λ w' (d:IY w w')=>Dp e 5 5 T L K B _ w' (Q.o w' d) (a5 O d.size) (J.o w' d).1 (J.o w' d).2);obtain⟨t,h⟩:=af (tx ((insL 5 e.ar).getD 0 [] ++ [32] ++ dS e.op ++ [32] ++ (insL 5 e.ar).getD 1 []));simp only[h] at S;have HR:=qh ((congrArg tx c).trans h);clear p V hi f M T L Z s H c P N j z b K h;show Calls Tryz.prog 212 #[.agg (BC e o q m e.ar.length n)] w _;go_enter Tryz.func212,Tryz.ntmps212;go_upto_region 1 with (fail);obtain⟨W,k⟩:=aC ((w.alloc (.cells (BC e o q m e.ar.length n) 67 (0,0))));have i:IY w W:=by rw[k];exact ((Below.refl _ w).alloc (a3 _) _)
 have B0:ah W (w.heap.size) 67 (BC e o q m e.ar.length n):=by
  rw[k];have:=ah.new w 67 (BC e o q m e.ar.length n);exact this
 have C:W.heap.size=w.heap.size+1:=by rw[k];simp
 rw[<- k];obtain⟨y,F,E,D,x,u,A,r⟩:=ah.c8 B0;clear k C;go_wp2_with fail;refine (pV e B _ W (Q.o W i)).mono ?_;rw[OW.o];rintro I Y ⟨rfl,g⟩;have G:=i.trans (g.mono i.size);have B0:=B0.below g B0.lt;clear y F E D x u A r g;obtain⟨y,F,E,D,x,u,A,r⟩:=ah.c8 B0;go_wp2_with fail;refine (S.o Y G).mono ?_;rintro I W2 ⟨rfl,v⟩;clear y F E D x u A r B0;go_wp2_with fail;go_ret;exact⟨by rw[HR.o];try rfl,G.trans (v.mono G.size)⟩
theorem YI (e:Ex) (j:e.k=4) (z:e.op=15\/e.op=16) (T:∀ a∈e.ar,fG 212 a) (L:∀ a∈e.ar,a.text.length<=1000000000) (Z:∀ l,((insL l e.ar).map a1).sum+98*e.ar.length<=999999000) (s:e.ar.length<=999999) (N:jQ e=0) (B:Nat) (cs:List Value) (w:World) (p:aZ w B e cs) (O:B<=w.heap.size) (f:Tab w) (M:Mx w) :
  IE 212 #[.agg cs.toArray] w (aW (tx (e.text))):=by
 have P:=kG N;have U:=qh p;obtain⟨R,H⟩:=af (e.text);rw[H];have c:=H.symm.trans (text_eq e);have J:=qh (λ w' (d:IY w w')=>a2 (aA f d) (M.below d));obtain⟨hn,hs,hl,ha,p,V,hi⟩:=p;rename_i o q m n cs;have Q:=qh (λ w' (d:IY w w')=>U.o.keep (d.mono O));have X:(e.k == 1)=false:=by rw[j];rfl
 have aa:(e.k == 2)=false:=by rw[j];rfl
 have ac:(e.k == 3)=false:=by rw[j];rfl
 have ab:(e.k == 5)=false:=by rw[j];rfl
 rw[if_neg (by omega),if_neg (by omega),if_neg (by omega),if_neg (by omega)] at c;rw[if_neg (by omega),if_neg (by omega),if_neg (by omega),if_neg (by omega),if_pos z] at c;have OW:=qh (show iL e=5 by unfold iL;rw[if_neg (by omega),if_neg (by omega)];rw[if_neg (by omega),if_neg (by omega),if_neg (by omega),if_neg (by omega),if_pos z]);have b:=P.a4 j;have K:e.ar.length=2:=by
  unfold gV at b;rw[if_neg (by omega),if_neg (by omega),if_neg (by omega),if_pos (by omega)] at b;have h1:(2:Nat)<=e.ar.length:=b.1;have h3:e.ar.length<=(2:Nat):=b.2;omega
 have S:=qh (λ w' (d:IY w w')=>Dp e 5 6 T L K B _ w' (Q.o w' d) (a5 O d.size) (J.o w' d).1 (J.o w' d).2);obtain⟨t,h⟩:=af (tx ((insL 5 e.ar).getD 0 [] ++ [32] ++ dS e.op ++ [32] ++ (insL 6 e.ar).getD 1 []));simp only[h] at S;have HR:=qh ((congrArg tx c).trans h);clear p V hi f M T L Z s H c P N j z b K h;show Calls Tryz.prog 212 #[.agg (BC e o q m e.ar.length n)] w _;go_enter Tryz.func212,Tryz.ntmps212;go_upto_region 1 with (fail);obtain⟨W,k⟩:=aC ((w.alloc (.cells (BC e o q m e.ar.length n) 67 (0,0))));have i:IY w W:=by rw[k];exact ((Below.refl _ w).alloc (a3 _) _)
 have B0:ah W (w.heap.size) 67 (BC e o q m e.ar.length n):=by
  rw[k];have:=ah.new w 67 (BC e o q m e.ar.length n);exact this
 have C:W.heap.size=w.heap.size+1:=by rw[k];simp
 rw[<- k];obtain⟨y,F,E,D,x,u,A,r⟩:=ah.c8 B0;clear k C;go_wp2_with fail;refine (pV e B _ W (Q.o W i)).mono ?_;rw[OW.o];rintro I Y ⟨rfl,g⟩;have G:=i.trans (g.mono i.size);have B0:=B0.below g B0.lt;clear y F E D x u A r g;obtain⟨y,F,E,D,x,u,A,r⟩:=ah.c8 B0;go_wp2_with fail;refine (S.o Y G).mono ?_;rintro I W2 ⟨rfl,v⟩;clear y F E D x u A r B0;go_wp2_with fail;go_ret;exact⟨by rw[HR.o];try rfl,G.trans (v.mono G.size)⟩
theorem Vq (e:Ex) (j:e.k=4) (z:e.op=17\/e.op=18\/e.op=19) (T:∀ a∈e.ar,fG 212 a) (L:∀ a∈e.ar,a.text.length<=1000000000) (Z:∀ l,((insL l e.ar).map a1).sum+98*e.ar.length<=999999000) (s:e.ar.length<=999999) (N:jQ e=0) (B:Nat) (cs:List Value) (w:World) (p:aZ w B e cs) (O:B<=w.heap.size) (f:Tab w) (M:Mx w) :
  IE 212 #[.agg cs.toArray] w (aW (tx (e.text))):=by
 have P:=kG N;have U:=qh p;obtain⟨R,H⟩:=af (e.text);rw[H];have c:=H.symm.trans (text_eq e);have J:=qh (λ w' (d:IY w w')=>a2 (aA f d) (M.below d));obtain⟨hn,hs,hl,ha,p,V,hi⟩:=p;rename_i o q m n cs;have Q:=qh (λ w' (d:IY w w')=>U.o.keep (d.mono O));have X:(e.k == 1)=false:=by rw[j];rfl
 have aa:(e.k == 2)=false:=by rw[j];rfl
 have ac:(e.k == 3)=false:=by rw[j];rfl
 have ab:(e.k == 5)=false:=by rw[j];rfl
 rw[if_neg (by omega),if_neg (by omega),if_neg (by omega),if_neg (by omega)] at c;rw[if_neg (by omega),if_neg (by omega),if_neg (by omega),if_neg (by omega),if_neg (by omega),if_pos z] at c;have OW:=qh (show iL e=6 by unfold iL;rw[if_neg (by omega),if_neg (by omega)];rw[if_neg (by omega),if_neg (by omega),if_neg (by omega),if_neg (by omega),if_neg (by omega),if_pos z]);have b:=P.a4 j;have K:e.ar.length=2:=by
  unfold gV at b;rw[if_neg (by omega),if_neg (by omega),if_neg (by omega),if_pos (by omega)] at b;have h1:(2:Nat)<=e.ar.length:=b.1;have h3:e.ar.length<=(2:Nat):=b.2;omega
 have S:=qh (λ w' (d:IY w w')=>Dp e 6 7 T L K B _ w' (Q.o w' d) (a5 O d.size) (J.o w' d).1 (J.o w' d).2);obtain⟨t,h⟩:=af (tx ((insL 6 e.ar).getD 0 [] ++ [32] ++ dS e.op ++ [32] ++ (insL 7 e.ar).getD 1 []));simp only[h] at S;have HR:=qh ((congrArg tx c).trans h);clear p V hi f M T L Z s H c P N j z b K h;show Calls Tryz.prog 212 #[.agg (BC e o q m e.ar.length n)] w _;go_enter Tryz.func212,Tryz.ntmps212;go_upto_region 1 with (fail);obtain⟨W,k⟩:=aC ((w.alloc (.cells (BC e o q m e.ar.length n) 67 (0,0))));have i:IY w W:=by rw[k];exact ((Below.refl _ w).alloc (a3 _) _)
 have B0:ah W (w.heap.size) 67 (BC e o q m e.ar.length n):=by
  rw[k];have:=ah.new w 67 (BC e o q m e.ar.length n);exact this
 have C:W.heap.size=w.heap.size+1:=by rw[k];simp
 rw[<- k];obtain⟨y,F,E,D,x,u,A,r⟩:=ah.c8 B0;clear k C;go_wp2_with fail;refine (pV e B _ W (Q.o W i)).mono ?_;rw[OW.o];rintro I Y ⟨rfl,g⟩;have G:=i.trans (g.mono i.size);have B0:=B0.below g B0.lt;clear y F E D x u A r g;obtain⟨y,F,E,D,x,u,A,r⟩:=ah.c8 B0;go_wp2_with fail;refine (S.o Y G).mono ?_;rintro I W2 ⟨rfl,v⟩;clear y F E D x u A r B0;go_wp2_with fail;go_ret;exact⟨by rw[HR.o];try rfl,G.trans (v.mono G.size)⟩
theorem YJ (e:Ex) (p:e.k=4) (I:e.op=1) (hI:∀ a∈e.ar,fG 212 a) (h9:∀ a∈e.ar,a.text.length<=1000000000) (hj:∀ l,((insL l e.ar).map a1).sum+98*e.ar.length<=999999000) (K:e.ar.length<=999999) (hP:jQ e=0) (B:Nat) (cs:List Value) (w:World) (A:aZ w B e cs) (hB:B<=w.heap.size) (n:Tab w) (hm:Mx w) :
  IE 212 #[.agg cs.toArray] w (aW (tx (e.text))):=by
 have P:=kG hP;have HX:=qh A;obtain⟨R,hR⟩:=af (e.text);rw[hR];have k:=hR.symm.trans (text_eq e);have pK:=qh (λ w' (m:IY w w')=>a2 (aA n m) (hm.below m));obtain⟨hn,hs,hl,ha,A,hr,hi⟩:=A;rename_i x q A2 v cs;have qN:=qh (λ w' (m:IY w w')=>HX.o.keep (m.mono hB));have ar:(e.k == 1)=false:=by rw[p];rfl
 have ax:(e.k == 2)=false:=by rw[p];rfl
 have aq:(e.k == 3)=false:=by rw[p];rfl
 have aw:(e.k == 5)=false:=by rw[p];rfl
 rw[if_neg (by omega),if_neg (by omega),if_neg (by omega),if_neg (by omega)] at k;rw[if_neg (by omega),if_neg (by omega),if_pos I] at k;have OW:=qh (show iL e=3 by unfold iL;rw[if_neg (by omega),if_neg (by omega)];simp[I]);have f:=P.a4 p;have y:e.ar.length=1:=by
  unfold gV at f;rw[if_neg (by omega),if_neg (by omega),if_pos (by omega)] at f;have y:(1:Nat)<=e.ar.length:=f.1;have h3:e.ar.length<=(1:Nat):=f.2;omega
 obtain⟨ad,av,rfl,ac,rC,d⟩:=zD hr hi (show 0<e.ar.length by omega);have hg:=yu 3 e.ar 0 (by omega);have V:=h9 _ (a6 (show 0<e.ar.length by omega));have o:=hI _ (a6 (show 0<e.ar.length by omega));obtain⟨a,r⟩:=af (e.ar[0]);rw[r] at rC hg V o;have nP:=qh rC;obtain⟨z1,z2,z3,z4,T,O,ae⟩:=rC;rename_i D F S C ap;have g:∀ j u,(ai a D F S C)[j]?=some u->w.cell? (ad.add j)=some u:=λ j u hu=>by have h:=d j u hu;rwa [a9,kH] at h
 obtain⟨kC,kT,nZ,tV,tX,tY,tZ,wJ⟩:=Cm g;have WJ:=qh y;obtain⟨t,i⟩:=af (tx (sF (decide (iL a<3)) a.text));have L:=zC (decide (iL a<3)) a.text;have st:t.size<=2000000000:=by rw[<- i,lQ];omega
 have HJ:=qh (λ w' (m:IY w w') cs' (ab:aZ w' B a cs')=>sU a 3 o V B cs' w' ab (a5 hB m.size) (pK.o w' m).1 (pK.o w' m).2);simp only[i] at HJ;have HR:=qh (show tx R=⟨#[110,111,116,32]⟩ ++ t by rw[k,hg,<- i,<- iV];rfl);clear A hr hi n hm hI h9 hj K hR k d g T O ae ac r z1 z2 z3 z4 P hP p I f hg V o i L;change Hid (∀ w',IY w w'->aZ w' B e [aM aR e.k,aM aR e.op,aW e.nm,aM aR e.v.k,aM aR e.v.n,aW e.v.s,a0 x e.v.l.length q,a0 (some ad) e.ar.length v]) at qN;rw[y] at qN;show Calls Tryz.prog 212 #[.agg (BC e x q (some ad) e.ar.length v)] w _;rw[y];clear y;go_enter Tryz.func212,Tryz.ntmps212;go_upto_region 1 with (fail);obtain⟨W,s⟩:=aC ((w.alloc (.cells (BC e x q (some ad) 1 v) 67 (0,0))));have c:IY w W:=by rw[s];exact ((Below.refl _ w).alloc (a3 _) _)
 have B0:ah W (w.heap.size) 67 (BC e x q (some ad) 1 v):=by
  rw[s];have:=ah.new w 67 (BC e x q (some ad) 1 v);exact this
 have M:W.heap.size=w.heap.size+1:=by rw[s];simp
 rw[<- s];obtain⟨G,Q,H,N,gJ,E,gQ,U⟩:=ah.c8 B0;have Ir:W.cell? ad=some (aM aR a.k):=Below.cell_of c kC;have Fz:W.cell? ⟨ad.block,ad.off+1,none⟩=some (aM aR a.op):=Below.cell_of c kT;have Iu:W.cell? ⟨ad.block,ad.off+2,none⟩=some (aW a.nm):=Below.cell_of c nZ;have Jm:W.cell? ⟨ad.block,ad.off+3,none⟩=some (aM aR a.v.k):=Below.cell_of c tV;have Jn:W.cell? ⟨ad.block,ad.off+4,none⟩=some (aM aR a.v.n):=Below.cell_of c tX;have Jo:W.cell? ⟨ad.block,ad.off+5,none⟩=some (aW a.v.s):=Below.cell_of c tY;have Jp:W.cell? ⟨ad.block,ad.off+6,none⟩=some (a0 D a.v.l.length F):=Below.cell_of c tZ;have Jq:W.cell? ⟨ad.block,ad.off+7,none⟩=some (a0 S a.ar.length C):=Below.cell_of c wJ;clear s M kC kT nZ tV tX tY tZ wJ;go_wp2_with fail;refine (pV e B _ W (qN.o W c)).mono ?_;rw[OW.o];rintro J W1 ⟨rfl,b⟩;have z:=c.trans (b.mono c.size);have B0:=B0.below b B0.lt;have ao:=Below.cell_of b Ir;have ak:=Below.cell_of b Fz;have an:=Below.cell_of b Iu;have aa:=Below.cell_of b Jm;have X:=Below.cell_of b Jn;have Y:=Below.cell_of b Jo;have am:=Below.cell_of b Jp;have al:=Below.cell_of b Jq;clear G Q H N gJ E gQ U Ir Fz Iu Jm Jn Jo Jp Jq b;obtain⟨G,Q,H,N,gJ,E,gQ,U⟩:=ah.c8 B0;go_wp2_with fail;refine (HJ.o W1 z _ (nP.o.keep (z.mono hB))).mono ?_;rintro J W2 ⟨rfl,Z⟩;clear G Q H N gJ E gQ U ao ak an aa X Y am al B0;go_wp2_with fail;go_ret;exact⟨by rw[HR.o];try rfl,z.trans (Z.mono z.size)⟩
theorem YK (e:Ex) (s:e.k=4) (M:e.op=20) (hI:∀ a∈e.ar,fG 212 a) (h9:∀ a∈e.ar,a.text.length<=1000000000) (hj:∀ l,((insL l e.ar).map a1).sum+98*e.ar.length<=999999000) (Q:e.ar.length<=999999) (hP:jQ e=0) (B:Nat) (cs:List Value) (w:World) (F:aZ w B e cs) (hB:B<=w.heap.size) (o:Tab w) (hm:Mx w) :
  IE 212 #[.agg cs.toArray] w (aW (tx (e.text))):=by
 have P:=kG hP;have HX:=qh F;obtain⟨R,hR⟩:=af (e.text);rw[hR];have m:=hR.symm.trans (text_eq e);have pK:=qh (λ w' (n:IY w w')=>a2 (aA o n) (hm.below n));obtain⟨hn,hs,hl,ha,F,hr,hi⟩:=F;rename_i D z A2 C cs;have qN:=qh (λ w' (n:IY w w')=>HX.o.keep (n.mono hB));have ay:(e.k == 1)=false:=by rw[s];rfl
 have aL:(e.k == 2)=false:=by rw[s];rfl
 have ax:(e.k == 3)=false:=by rw[s];rfl
 have aE:(e.k == 5)=false:=by rw[s];rfl
 rw[if_neg (by omega),if_neg (by omega),if_neg (by omega),if_neg (by omega)] at m;rw[if_neg (by omega),if_neg (by omega),if_neg (by omega),if_neg (by omega),if_neg (by omega),if_neg (by omega),if_pos M] at m;have OW:=qh (show iL e=7 by unfold iL;rw[if_neg (by omega),if_neg (by omega)];simp[M]);have g:=P.a4 s;have v:e.ar.length=1:=by
  unfold gV at g;rw[if_neg (by omega),if_neg (by omega),if_pos (by omega)] at g;have v:(1:Nat)<=e.ar.length:=g.1;have h3:e.ar.length<=(1:Nat):=g.2;omega
 obtain⟨ad,aD,rfl,am,rC,f⟩:=zD hr hi (show 0<e.ar.length by omega);have hg:=yu 7 e.ar 0 (by omega);have hz:=h9 _ (a6 (show 0<e.ar.length by omega));have p:=hI _ (a6 (show 0<e.ar.length by omega));obtain⟨a,k⟩:=af (e.ar[0]);rw[k] at rC hg hz p;have nP:=qh rC;obtain⟨z1,z2,z3,z4,Z,V,an⟩:=rC;rename_i H J Y G aw;have i:∀ j u,(ai a H J Y G)[j]?=some u->w.cell? (ad.add j)=some u:=λ j u hu=>by have h:=f j u hu;rwa [a9,kH] at h
 obtain⟨kC,kT,nZ,tV,tX,tY,tZ,wJ⟩:=Cm i;have WJ:=qh v;obtain⟨t,r⟩:=af (tx ((if a.k=1/\a.v.k=2/\0<=a.v.n then [45,40] ++ a.text ++ [41] else [45] ++ sF (decide (iL a<7)) a.text)));have S:=zC (decide (iL a<7)) a.text;have HJ:=qh (λ w' (n:IY w w') cs' (al:aZ w' B a cs')=>Rf a p hz B cs' w' al (a5 hB n.size) (pK.o w' n).1 (pK.o w' n).2);simp only[r] at HJ;have q:=yu 0 e.ar 0 (by omega);have y:Ld e.ar=(decide (a.k=1) && (decide (a.v.k=2) && decide (0<=a.v.n))):=by
  match hr':e.ar,v with
  | [x],_=>(have O:x=a:=by have h:=k;simp only[hr'] at h;exact h);rw[O];rfl
 rw[k] at q;have aa:=X6 a;have HR:=qh (show tx R=t by
  rw[m,hg,q,y,<- r];congr 1;by_cases c:a.k=1/\a.v.k=2/\0<=a.v.n
  .rw[if_pos c,if_pos (by simp[c.1,c.2.1,c.2.2])];unfold sF;rw[decide_eq_false (by omega)];rfl
  .rw[if_neg c,if_neg (by simp only[Bool.and_eq_true,decide_eq_true_iff];exact c)])
 clear q y aa;clear F hr hi o hm hI h9 hj Q hR m f i Z V an am k z1 z2 z3 z4 P hP s M g hg hz p r S;change Hid (∀ w',IY w w'->aZ w' B e [aM aR e.k,aM aR e.op,aW e.nm,aM aR e.v.k,aM aR e.v.n,aW e.v.s,a0 D e.v.l.length z,a0 (some ad) e.ar.length C]) at qN;rw[v] at qN;show Calls Tryz.prog 212 #[.agg (BC e D z (some ad) e.ar.length C)] w _;rw[v];clear v;go_enter Tryz.func212,Tryz.ntmps212;go_upto_region 1 with (fail);obtain⟨W,A⟩:=aC ((w.alloc (.cells (BC e D z (some ad) 1 C) 67 (0,0))));have d:IY w W:=by rw[A];exact ((Below.refl _ w).alloc (a3 _) _)
 have B0:ah W (w.heap.size) 67 (BC e D z (some ad) 1 C):=by
  rw[A];have:=ah.new w 67 (BC e D z (some ad) 1 C);exact this
 have T:W.heap.size=w.heap.size+1:=by rw[A];simp
 rw[<- A];obtain⟨K,X,L,U,gJ,I,gQ,fM⟩:=ah.c8 B0;have Ir:W.cell? ad=some (aM aR a.k):=Below.cell_of d kC;have Fz:W.cell? ⟨ad.block,ad.off+1,none⟩=some (aM aR a.op):=Below.cell_of d kT;have Iu:W.cell? ⟨ad.block,ad.off+2,none⟩=some (aW a.nm):=Below.cell_of d nZ;have Jm:W.cell? ⟨ad.block,ad.off+3,none⟩=some (aM aR a.v.k):=Below.cell_of d tV;have Jn:W.cell? ⟨ad.block,ad.off+4,none⟩=some (aM aR a.v.n):=Below.cell_of d tX;have Jo:W.cell? ⟨ad.block,ad.off+5,none⟩=some (aW a.v.s):=Below.cell_of d tY;have Jp:W.cell? ⟨ad.block,ad.off+6,none⟩=some (a0 H a.v.l.length J):=Below.cell_of d tZ;have Jq:W.cell? ⟨ad.block,ad.off+7,none⟩=some (a0 Y a.ar.length G):=Below.cell_of d wJ;clear A T kC kT nZ tV tX tY tZ wJ;go_wp2_with fail;refine (pV e B _ W (qN.o W d)).mono ?_;rw[OW.o];rintro N W1 ⟨rfl,b⟩;have E:=d.trans (b.mono d.size);have B0:=B0.below b B0.lt;have av:=Below.cell_of b Ir;have ao:=Below.cell_of b Fz;have ar:=Below.cell_of b Iu;have ak:=Below.cell_of b Jm;have ab:=Below.cell_of b Jn;have ac:=Below.cell_of b Jo;have aq:=Below.cell_of b Jp;have ap:=Below.cell_of b Jq;clear K X L U gJ I gQ fM Ir Fz Iu Jm Jn Jo Jp Jq b;obtain⟨K,X,L,U,gJ,I,gQ,fM⟩:=ah.c8 B0;go_wp2_with fail;refine (HJ.o W1 E _ (nP.o.keep (E.mono hB))).mono ?_;rintro N W2 ⟨rfl,ae⟩;clear K X L U gJ I gQ fM av ao ar ak ab ac aq ap B0;go_wp2_with fail;go_ret;exact⟨by rw[HR.o];try rfl,E.trans (ae.mono E.size)⟩
theorem YL (e:Ex) (u:e.k=4) (Z:(12<=e.op/\e.op<=14)\/21<=e.op) (N:∀ a∈e.ar,fG 212 a) (J:∀ a∈e.ar,a.text.length<=1000000000) (K:∀ l,((insL l e.ar).map a1).sum+98*e.ar.length<=999999000) (D:e.ar.length<=999999) (L:jQ e=0) (B:Nat) (cs:List Value) (w:World) (C:aZ w B e cs) (A:B<=w.heap.size) (j:Tab w) (M:Mx w) :
  IE 212 #[.agg cs.toArray] w (aW (tx (e.text))):=by
 have P:=kG L;have HX:=qh C;obtain⟨R,I⟩:=af (e.text);rw[I];have f:=I.symm.trans (text_eq e);have Q:=qh (λ w' (b:IY w w')=>a2 (aA j b) (M.below b));obtain⟨hn,hs,hl,ha,C,S,O⟩:=C;rename_i z x o p cs;have qN:=qh (λ w' (b:IY w w')=>HX.o.keep (b.mono A));have aa:(e.k == 1)=false:=by rw[u];rfl
 have ac:(e.k == 2)=false:=by rw[u];rfl
 have Y:(e.k == 3)=false:=by rw[u];rfl
 have ab:(e.k == 5)=false:=by rw[u];rfl
 rw[if_neg (by omega),if_neg (by omega),if_neg (by omega),if_neg (by omega)] at f;rw[if_neg (by omega),if_neg (by omega),if_neg (by omega),if_neg (by omega),if_neg (by omega),if_neg (by omega),if_neg (by omega)] at f;have OW:=qh (show iL e=8 by unfold iL;rw[if_neg (by omega),if_neg (by omega)];rw[if_neg (by omega),if_neg (by omega),if_neg (by omega),if_neg (by omega),if_neg (by omega),if_neg (by omega),if_neg (by omega)]);have G:=K 1;have k:=sH (insL 1 e.ar) [44,32];rw[pU] at k;simp only[a7,a8] at k;have H:=qh (λ w' (b:IY w w')=>Dn e.ar [44,32] 1 N J (by omega) (by omega) o p B cs w' (S.below (b.mono A)) (λ i h=>(O i h).keep (b.mono A)) (a5 A b.size) (Q.o w' b).1 (Q.o w' b).2);obtain⟨t,d⟩:=af (tx (Lib.join (insL 1 e.ar) [44,32]));obtain⟨F,c⟩:=af (tx (vN e.op));simp only[d] at H;have st:t.size<=2000000000:=by rw[<- d,lQ];omega
 have sf:F.size<=8:=by rw[<- c,lQ];exact TG e.op
 have WQ:=qh c;have V:=qh (show tx R=F ++ ⟨#[40]⟩ ++ t ++ ⟨#[41]⟩ by rw[f,<- d,<- c,<- iV,<- iV,<- iV];rfl);clear C S O j M N J K D I f P L u Z G k d c;show Calls Tryz.prog 212 #[.agg (BC e z x o e.ar.length p)] w _;go_enter Tryz.func212,Tryz.ntmps212;go_upto_region 1 with (fail);obtain⟨W,s⟩:=aC ((w.alloc (.cells (BC e z x o e.ar.length p) 67 (0,0))));have n:IY w W:=by rw[s];exact ((Below.refl _ w).alloc (a3 _) _)
 have B0:ah W (w.heap.size) 67 (BC e z x o e.ar.length p):=by
  rw[s];have:=ah.new w 67 (BC e z x o e.ar.length p);exact this
 have E:W.heap.size=w.heap.size+1:=by rw[s];simp
 rw[<- s];obtain⟨U,fZ,X,gI,gJ,T,gQ,fM⟩:=ah.c8 B0;clear s E;go_wp2_with fail;refine (pV e B _ W (qN.o W n)).mono ?_;rw[OW.o];rintro r g ⟨rfl,m⟩;have y:=n.trans (m.mono n.size);have B0:=B0.below m B0.lt;clear U fZ X gI gJ T gQ fM m;have K1:=qh (Later.call (W:=g) (show ∀ w',IY g w'->Calls Tryz.prog 239 #[a0 o e.ar.length p,aW ⟨#[44,32]⟩,aM aR 1] w' λ r q=>r = .returned (aW t)/\IY w' q from λ w' b=>H.o w' (y.trans (b.mono y.size))));have K2:=qh (Later.call (W:=g) (show ∀ w',IY g w'->Calls Tryz.prog 243 #[aM aR e.op] w' λ r q=>r = .returned (aW F)/\IY w' q from λ w' b=>by have h:=LC e.op w';rwa [WQ.o] at h));have q0:=Later.cell (show g.cell? ⟨w.heap.size,1,none⟩=some (aM aR e.op) from B0.cell 1);have q1:=Later.cell (show g.cell? ⟨w.heap.size,7,none⟩=some (a0 o e.ar.length p) from B0.cell 7);clear B0 H;go_upto_region 25 with (fail);refine aF (by kernel_rfl) (by kernel_rfl) ?_
 repeat (go_big_quiet_step (first | with_reducible exact K1.o _ | with_reducible exact K2.o _))
 refine wpQuiet_nil ?_;intro W9 v;have eP:=dY v;clear v;go_wp2_with fail;go_ret;exact⟨by rw[V.o];try rfl,y.trans (eP.mono y.size)⟩
end Go.Proofs.YtcnagconagpkcaaGreatDoor
