/- Lemmas. -/
import Derived.Test.YtcnagconagpkcaaGreatDoorZ8
open Go.Value renaming int->aE, string->aM, slice->aR
open Go.IntKind renaming i64->aL
open Nat renaming le_refl->aV, le_trans->aZ, zero_mul->a6
open List renaming length->a0, getElem_mem->a2, length_cons->a3, length_nil->a5
open And renaming intro->a1
set_option maxHeartbeats 4000000
set_option maxRecDepth 100000
namespace Go.Proofs.YtcnagconagpkcaaGreatDoor
open Tryz
open Tryz renaming prog->lM
open Go.RowKit
attribute [local go_sem ↓] Go.wp_at_zero Go.wp_at_succ
theorem QH (a:Ex) (E:eu 212 a) (J:a.text.length<=1000000000) (B:Nat) (cs:List Value) (w:World) (r:bC w B a cs) (G:B<=w.heap.size) (e:Tab w) (C:Mx w) :
  CS 242 #[.agg cs.toArray] w (aM (tx ((if a.k=1/\a.v.k=2/\0<=a.v.n then [45,40] ++ a.text ++ [41] else [45] ++ rf (decide (gQ a<7)) a.text)))):=by
 have K:=qh r;obtain⟨R,z⟩:=af ((if a.k=1/\a.v.k=2/\0<=a.v.n then [45,40] ++ a.text ++ [41] else [45] ++ rf (decide (gQ a<7)) a.text));have u:=qh z;rw[z];clear z;obtain⟨t,f⟩:=af (tx a.text);obtain⟨tp,c⟩:=af (tx (rf (decide (gQ a<7)) a.text));have D:=x9 (decide (gQ a<7)) a.text;have M:t.size<=2000000000:=by rw[<- f,kG];omega
 have O:tp.size<=2000000000:=by rw[<- c,kG];omega
 have H:=qh (λ w' (g:DD w w') cs' (j:bC w' B a cs')=>E B cs' w' j (aZ G g.size) (aB e g) (C.below g));have HW:=qh (λ w' (g:DD w w') cs' (j:bC w' B a cs')=>rG a 7 E J B cs' w' j (aZ G g.size) (aB e g) (C.below g));simp only[f] at H;simp only[c] at HW;obtain⟨P,N,Q,S,r,L,I⟩:=r;rename_i A1 c1 A2 c2 cs;have m:=qh (λ w' (g:DD w w')=>K.o.keep (g.mono G));clear r L I E e C D;show Calls lM 242 #[.agg (Ag a A1 c1 A2 a.ar.length c2)] w _;go_enter func242,ntmps242;go_upto_region 1 with (fail);obtain⟨W,l⟩:=aG ((w.alloc (.cells (Ag a A1 c1 A2 a.ar.length c2) 67 (0,0))));have b:DD w W:=by rw[l];exact ((Below.refl _ w).alloc (aV _) _)
 have B0:ah W (w.heap.size) 67 (Ag a A1 c1 A2 a.ar.length c2):=by
  rw[l];have:=ah.new w 67 (Ag a A1 c1 A2 a.ar.length c2);exact this
 have F:W.heap.size=w.heap.size+1:=by rw[l];simp
 rw[<- l];obtain⟨y,s,v,x,p,q,n,o⟩:=ah.c8 B0;clear l F B0;by_cases d1:a.k=1
 .have b1:(a.k == 1)=true:=by simp[d1]
  by_cases d2:a.v.k=2
  .have b2:(a.v.k == 2)=true:=by simp[d2]
   by_cases d3:0<=a.v.n
   .have i:=qh (show tx R=⟨#[45,40]⟩ ++ t ++ ⟨#[41]⟩ by rw[<- u.o,if_pos ⟨d1,d2,d3⟩,<- f,<- ig,<- ig];rfl);clear f d1 d2;go_wp2_with fail;refine (H.o W b _ (m.o W b)).mono ?_;rintro k A ⟨rfl,d⟩;clear y s v x p q n o;go_wp2_with fail;go_ret;exact⟨by rw[i.o];try rfl,b.trans (d.mono b.size)⟩
   .have i:=qh (show tx R=⟨#[45]⟩ ++ tp by rw[<- u.o,if_neg (λ h=>d3 h.2.2),<- c,<- ig];rfl);clear c d1 d2;go_wp2_with fail;refine (HW.o W b _ (m.o W b)).mono ?_;rintro k A ⟨rfl,d⟩;clear y s v x p q n o;go_wp2_with fail;go_ret;exact⟨by rw[i.o];try rfl,b.trans (d.mono b.size)⟩
  .have b2:(a.v.k == 2)=false:=by simp[d2]
   have i:=qh (show tx R=⟨#[45]⟩ ++ tp by rw[<- u.o,if_neg (λ h=>d2 h.2.1),<- c,<- ig];rfl);clear c d1 d2;go_wp2_with fail;refine (HW.o W b _ (m.o W b)).mono ?_;rintro k A ⟨rfl,d⟩;clear y s v x p q n o;go_wp2_with fail;go_ret;exact⟨by rw[i.o];try rfl,b.trans (d.mono b.size)⟩
 .have b1:(a.k == 1)=false:=by simp[d1]
  have i:=qh (show tx R=⟨#[45]⟩ ++ tp by rw[<- u.o,if_neg (λ h=>d1 h.1),<- c,<- ig];rfl);clear c d1;go_wp2_with fail;refine (HW.o W b _ (m.o W b)).mono ?_;rintro k A ⟨rfl,d⟩;clear y s v x p q n o;go_wp2_with fail;go_ret;exact⟨by rw[i.o];try rfl,b.trans (d.mono b.size)⟩
def vI:List ByteArray:=JB.map tx
theorem xN (w:World):Calls lM 237 #[] w λ e w'=>∃ ad,e = .returned (aR (some ad) 7 7)/\dA w' w'.heap.size (some ad) vI/\DD w w':=by
 go_enter func237,ntmps237;go_wp2_with fail;go_ret;refine⟨_,rfl,⟨rfl,λ _=>⟨_,rfl,by simp,λ j u a=>?_⟩⟩,(Below.refl _ w).alloc (aV _) _⟩;have e:(⟨w.heap.size,0,none⟩:Addr).add j=⟨w.heap.size,j,none⟩:=by unfold Addr.add;split <;> simp_all
 rw[e,(ah.new w 9 #[aM ⟨#[]⟩,aM ⟨#[115,117,109]⟩,aM ⟨#[99,111,117,110,116]⟩,aM ⟨#[97,110,121]⟩,aM ⟨#[97,108,108]⟩,aM ⟨#[108,101,97,115,116]⟩,aM ⟨#[109,111,115,116]⟩]).cell j];rw[<- a];have b:(dP vI).toArray = #[aM ⟨#[]⟩,aM ⟨#[115,117,109]⟩,aM ⟨#[99,111,117,110,116]⟩,aM ⟨#[97,110,121]⟩,aM ⟨#[97,108,108]⟩,aM ⟨#[108,101,97,115,116]⟩,aM ⟨#[109,111,115,116]⟩]:=by kernel_rfl
 rw[<- b];simp
theorem afj (e:Ex) (d:e.k=1) (N:∀ a∈e.ar,eu 212 a) (D:∀ a∈e.ar,a.text.length<=1000000000) (S:∀ l,((insL l e.ar).map a0).sum+98*e.ar.length<=999999000) (n:e.ar.length<=999999) (i:jw e=0) (B:Nat) (cs:List Value) (w:World) (f:bC w B e cs) (r:B<=w.heap.size) (c:Tab w) (v:Mx w) :
  CS 212 #[.agg cs.toArray] w (aM (tx (e.text))):=by
 have P:=kJ i;have E:=qh f;obtain⟨R,k⟩:=af (e.text);rw[k];have g:=k.symm.trans (text_eq e);have x:=qh (λ w' (j:DD w w')=>a1 (aB c j) (v.below j));obtain⟨hn,Z,hl,ha,f,L,A⟩:=f;rename_i A1 c1 A2 c2 cs;have X:=qh (λ w' (j:DD w w')=>E.o.keep (j.mono r));have z:(e.k == 1)=true:=by rw[d];rfl
 have M:(e.k == 2)=false:=by rw[d];rfl
 have V:(e.k == 3)=false:=by rw[d];rfl
 have Q:(e.k == 5)=false:=by rw[d];rfl
 have q:=qh (x8 (vH i d));have o:=qh f;have y:=Tf (vH i d);have O:=qh (show tx R=tx (Vtx.showT e.v.k e.v.n e.v.s.data.toList e.v.l) by rw[g,if_pos d]);clear f L A c v N D S n k g P i d y;show Calls lM 212 #[.agg (Ag e A1 c1 A2 e.ar.length c2)] w _;go_enter func212,ntmps212;go_upto_region 1 with (fail);obtain⟨W,h⟩:=aG ((w.alloc (.cells (Ag e A1 c1 A2 e.ar.length c2) 67 (0,0))));have b:DD w W:=by rw[h];exact ((Below.refl _ w).alloc (aV _) _)
 have B0:ah W (w.heap.size) 67 (Ag e A1 c1 A2 e.ar.length c2):=by
  rw[h];have:=ah.new w 67 (Ag e A1 c1 A2 e.ar.length c2);exact this
 have p:W.heap.size=w.heap.size+1:=by rw[h];simp
 rw[<- h];obtain⟨G,K,T,U,H,I,C,F⟩:=ah.c8 B0;clear h p;go_wp2_with fail;refine (NU e.v.k e.v.n e.v.s e.v.l _ A1 c1 B W rfl q.o.1 (by have:=q.o.2;omega) (by have:=q.o.2;omega) (o.o.below (b.mono r)) (aZ r b.size) (x.o W b).1 (x.o W b).2).mono ?_;rintro s Y ⟨⟨t,rfl,u⟩,m⟩;have J:=qh (NW u);clear u G K T U H I C F B0;go_wp2_with fail;go_ret;exact⟨by rw[O.o,<- J.o];try rfl,b.trans (m.mono b.size)⟩
theorem afk (e:Ex) (c:e.k=2) (x:∀ a∈e.ar,eu 212 a) (r:∀ a∈e.ar,a.text.length<=1000000000) (A:∀ l,((insL l e.ar).map a0).sum+98*e.ar.length<=999999000) (k:e.ar.length<=999999) (n:jw e=0) (B:Nat) (cs:List Value) (w:World) (g:bC w B e cs) (C:B<=w.heap.size) (b:Tab w) (o:Mx w) :
  CS 212 #[.agg cs.toArray] w (aM (tx (e.text))):=by
 have P:=kJ n;have s:=qh g;obtain⟨R,j⟩:=af (e.text);rw[j];have d:=j.symm.trans (text_eq e);have M:=qh (λ w' (h:DD w w')=>a1 (aB b h) (o.below h));obtain⟨N,L,Q,T,g,u,q⟩:=g;rename_i A1 c1 A2 c2 cs;have E:=qh (λ w' (h:DD w w')=>s.o.keep (h.mono C));have p:(e.k == 1)=false:=by rw[c];rfl
 have v:(e.k == 2)=true:=by rw[c];rfl
 have D:(e.k == 3)=false:=by rw[c];rfl
 have z:(e.k == 5)=false:=by rw[c];rfl
 have y:=qh (show tx R=e.nm by rw[d,if_neg (by omega),if_pos c];exact (NW rfl).symm);clear g u q b o x r A k j d P n c;show Calls lM 212 #[.agg (Ag e A1 c1 A2 e.ar.length c2)] w _;go_enter func212,ntmps212;go_upto_region 1 with (fail);obtain⟨W,f⟩:=aG ((w.alloc (.cells (Ag e A1 c1 A2 e.ar.length c2) 67 (0,0))));have i:DD w W:=by rw[f];exact ((Below.refl _ w).alloc (aV _) _)
 have B0:ah W (w.heap.size) 67 (Ag e A1 c1 A2 e.ar.length c2):=by
  rw[f];have:=ah.new w 67 (Ag e A1 c1 A2 e.ar.length c2);exact this
 have m:W.heap.size=w.heap.size+1:=by rw[f];simp
 rw[<- f];obtain⟨H,K,O,S,I,J,F,G⟩:=ah.c8 B0;clear f m;clear B0;go_wp2_with fail;go_ret;exact⟨by rw[y.o];try rfl,i⟩
theorem afl (e:Ex) (c:e.k=3) (A:∀ a∈e.ar,eu 212 a) (s:∀ a∈e.ar,a.text.length<=1000000000) (E:∀ l,((insL l e.ar).map a0).sum+98*e.ar.length<=999999000) (n:e.ar.length<=999999) (m:jw e=0) (B:Nat) (cs:List Value) (w:World) (h:bC w B e cs) (F:B<=w.heap.size) (b:Tab w) (p:Mx w) :
  CS 212 #[.agg cs.toArray] w (aM (tx (e.text))):=by
 have P:=kJ m;have u:=qh h;obtain⟨R,k⟩:=af (e.text);rw[k];have f:=k.symm.trans (text_eq e);have Q:=qh (λ w' (i:DD w w')=>a1 (aB b i) (p.below i));obtain⟨S,O,U,X,h,x,r⟩:=h;rename_i A1 c1 A2 c2 cs;have H:=qh (λ w' (i:DD w w')=>u.o.keep (i.mono F));have q:(e.k == 1)=false:=by rw[c];rfl
 have y:(e.k == 2)=false:=by rw[c];rfl
 have G:(e.k == 3)=true:=by rw[c];rfl
 have D:(e.k == 5)=false:=by rw[c];rfl
 have d:=zh (rF m (.inr (.inl c)));have z:e.nm.size<=16:=by simpa using d
 have C:=qh (show tx R=⟨#[114,111,119,40]⟩ ++ e.nm ++ ⟨#[41]⟩ by rw[f,if_neg (by omega),if_neg (by omega),if_pos c,<- ig,<- ig,<- NW (t:=e.nm) rfl];rfl);clear h x r b p A s E n k f P m c d;show Calls lM 212 #[.agg (Ag e A1 c1 A2 e.ar.length c2)] w _;go_enter func212,ntmps212;go_upto_region 1 with (fail);obtain⟨W,g⟩:=aG ((w.alloc (.cells (Ag e A1 c1 A2 e.ar.length c2) 67 (0,0))));have j:DD w W:=by rw[g];exact ((Below.refl _ w).alloc (aV _) _)
 have B0:ah W (w.heap.size) 67 (Ag e A1 c1 A2 e.ar.length c2):=by
  rw[g];have:=ah.new w 67 (Ag e A1 c1 A2 e.ar.length c2);exact this
 have o:W.heap.size=w.heap.size+1:=by rw[g];simp
 rw[<- g];obtain⟨K,N,T,V,L,M,I,J⟩:=ah.c8 B0;clear g o;clear B0;go_wp2_with fail;go_ret;exact⟨by rw[C.o];try rfl,j⟩
theorem acC (e:Ex) (k:e.k=4) (G:e.op=3) (Q:∀ a∈e.ar,eu 212 a) (K:∀ a∈e.ar,a.text.length<=1000000000) (T:∀ l,((insL l e.ar).map a0).sum+98*e.ar.length<=999999000) (C:e.ar.length<=999999) (M:jw e=0) (B:Nat) (cs:List Value) (w:World) (n:bC w B e cs) (o:B<=w.heap.size) (d:Tab w) (O:Mx w) :
  CS 212 #[.agg cs.toArray] w (aM (tx (e.text))):=by
 have P:=kJ M;have X:=qh n;obtain⟨R,u⟩:=af (e.text);rw[u];have c:=u.symm.trans (text_eq e);have S:=qh (λ w' (b:DD w w')=>a1 (aB d b) (O.below b));obtain⟨hn,hs,hl,ha,n,N,J⟩:=n;rename_i A1 c1 A2 c2 cs;have U:=qh (λ w' (b:DD w w')=>X.o.keep (b.mono o));have V:(e.k == 1)=false:=by rw[k];rfl
 have Z:(e.k == 2)=false:=by rw[k];rfl
 have ab:(e.k == 3)=false:=by rw[k];rfl
 have aa:(e.k == 5)=false:=by rw[k];rfl
 rw[if_neg (by omega),if_neg (by omega),if_neg (by omega),if_neg (by omega)] at c;rw[if_pos G] at c;have QI:=qh (show gQ e=1 by unfold gQ;rw[if_neg (by omega),if_neg (by omega)];simp[G]);have D:=P.a4 k;have y:=T 2;have L:=qh (λ w' (b:DD w w')=>Bz e.ar [32,111,114,32] 2 Q K (by omega) (by have:=ru (insL 2 e.ar) [32,111,114,32];rw[ou] at this;simp only[a3,a5] at this;omega) A2 c2 B cs w' (N.below (b.mono o)) (λ i h=>(J i h).keep (b.mono o)) (aZ o b.size) (S.o w' b).1 (S.o w' b).2);obtain⟨t,g⟩:=af (tx (Lib.join (insL 2 e.ar) [32,111,114,32]));simp only[g] at L;have HR:=qh ((congrArg tx c).trans g);clear n N J d O Q K T C u c P M k G D y g;show Calls lM 212 #[.agg (Ag e A1 c1 A2 e.ar.length c2)] w _;go_enter func212,ntmps212;go_upto_region 1 with (fail);obtain⟨W,m⟩:=aG ((w.alloc (.cells (Ag e A1 c1 A2 e.ar.length c2) 67 (0,0))));have f:DD w W:=by rw[m];exact ((Below.refl _ w).alloc (aV _) _)
 have B0:ah W (w.heap.size) 67 (Ag e A1 c1 A2 e.ar.length c2):=by
  rw[m];have:=ah.new w 67 (Ag e A1 c1 A2 e.ar.length c2);exact this
 have E:W.heap.size=w.heap.size+1:=by rw[m];simp
 rw[<- m];obtain⟨v,A,H,I,x,z,p,r⟩:=ah.c8 B0;clear m E;go_wp2_with fail;refine (oz e B _ W (U.o W f)).mono ?_;rw[QI.o];rintro s Y ⟨rfl,j⟩;have q:=f.trans (j.mono f.size);have B0:=B0.below j B0.lt;clear v A H I x z p r j;obtain⟨v,A,H,I,x,z,p,r⟩:=ah.c8 B0;go_wp2_with fail;refine (L.o Y q).mono ?_;rintro s W2 ⟨rfl,F⟩;clear v A H I x z p r B0;go_wp2_with fail;go_ret;exact⟨by rw[HR.o];try rfl,q.trans (F.mono q.size)⟩
theorem Yz (e:Ex) (k:e.k=4) (G:e.op=2) (Q:∀ a∈e.ar,eu 212 a) (K:∀ a∈e.ar,a.text.length<=1000000000) (T:∀ l,((insL l e.ar).map a0).sum+98*e.ar.length<=999999000) (C:e.ar.length<=999999) (M:jw e=0) (B:Nat) (cs:List Value) (w:World) (n:bC w B e cs) (o:B<=w.heap.size) (d:Tab w) (O:Mx w) :
  CS 212 #[.agg cs.toArray] w (aM (tx (e.text))):=by
 have P:=kJ M;have X:=qh n;obtain⟨R,u⟩:=af (e.text);rw[u];have c:=u.symm.trans (text_eq e);have S:=qh (λ w' (b:DD w w')=>a1 (aB d b) (O.below b));obtain⟨hn,hs,hl,ha,n,N,J⟩:=n;rename_i A1 c1 A2 c2 cs;have U:=qh (λ w' (b:DD w w')=>X.o.keep (b.mono o));have V:(e.k == 1)=false:=by rw[k];rfl
 have Z:(e.k == 2)=false:=by rw[k];rfl
 have ab:(e.k == 3)=false:=by rw[k];rfl
 have aa:(e.k == 5)=false:=by rw[k];rfl
 rw[if_neg (by omega),if_neg (by omega),if_neg (by omega),if_neg (by omega)] at c;rw[if_neg (by omega),if_pos G] at c;have QI:=qh (show gQ e=2 by unfold gQ;rw[if_neg (by omega),if_neg (by omega)];simp[G]);have D:=P.a4 k;have y:=T 3;have L:=qh (λ w' (b:DD w w')=>Bz e.ar [32,97,110,100,32] 3 Q K (by omega) (by have:=ru (insL 3 e.ar) [32,97,110,100,32];rw[ou] at this;simp only[a3,a5] at this;omega) A2 c2 B cs w' (N.below (b.mono o)) (λ i h=>(J i h).keep (b.mono o)) (aZ o b.size) (S.o w' b).1 (S.o w' b).2);obtain⟨t,g⟩:=af (tx (Lib.join (insL 3 e.ar) [32,97,110,100,32]));simp only[g] at L;have HR:=qh ((congrArg tx c).trans g);clear n N J d O Q K T C u c P M k G D y g;show Calls lM 212 #[.agg (Ag e A1 c1 A2 e.ar.length c2)] w _;go_enter func212,ntmps212;go_upto_region 1 with (fail);obtain⟨W,m⟩:=aG ((w.alloc (.cells (Ag e A1 c1 A2 e.ar.length c2) 67 (0,0))));have f:DD w W:=by rw[m];exact ((Below.refl _ w).alloc (aV _) _)
 have B0:ah W (w.heap.size) 67 (Ag e A1 c1 A2 e.ar.length c2):=by
  rw[m];have:=ah.new w 67 (Ag e A1 c1 A2 e.ar.length c2);exact this
 have E:W.heap.size=w.heap.size+1:=by rw[m];simp
 rw[<- m];obtain⟨v,A,H,I,x,z,p,r⟩:=ah.c8 B0;clear m E;go_wp2_with fail;refine (oz e B _ W (U.o W f)).mono ?_;rw[QI.o];rintro s Y ⟨rfl,j⟩;have q:=f.trans (j.mono f.size);have B0:=B0.below j B0.lt;clear v A H I x z p r j;obtain⟨v,A,H,I,x,z,p,r⟩:=ah.c8 B0;go_wp2_with fail;refine (L.o Y q).mono ?_;rintro s W2 ⟨rfl,F⟩;clear v A H I x z p r B0;go_wp2_with fail;go_ret;exact⟨by rw[HR.o];try rfl,q.trans (F.mono q.size)⟩
theorem YA (e:Ex) (j:e.k=4) (C:4<=e.op/\e.op<=11) (L:∀ a∈e.ar,eu 212 a) (G:∀ a∈e.ar,a.text.length<=1000000000) (hj:∀ l,((insL l e.ar).map a0).sum+98*e.ar.length<=999999000) (y:e.ar.length<=999999) (I:jw e=0) (B:Nat) (cs:List Value) (w:World) (m:bC w B e cs) (N:B<=w.heap.size) (f:Tab w) (J:Mx w) :
  CS 212 #[.agg cs.toArray] w (aM (tx (e.text))):=by
 have P:=kJ I;have S:=qh m;obtain⟨R,r⟩:=af (e.text);rw[r];have c:=r.symm.trans (text_eq e);have M:=qh (λ w' (d:DD w w')=>a1 (aB f d) (J.below d));obtain⟨hn,hs,hl,ha,m,T,Q⟩:=m;rename_i A1 c1 A2 c2 cs;have F:=qh (λ w' (d:DD w w')=>S.o.keep (d.mono N));have O:(e.k == 1)=false:=by rw[j];rfl
 have V:(e.k == 2)=false:=by rw[j];rfl
 have aa:(e.k == 3)=false:=by rw[j];rfl
 have Z:(e.k == 5)=false:=by rw[j];rfl
 rw[if_neg (by omega),if_neg (by omega),if_neg (by omega),if_neg (by omega)] at c;rw[if_neg (by omega),if_neg (by omega),if_neg (by omega),if_pos C] at c;have X:=qh (show gQ e=4 by unfold gQ;rw[if_neg (by omega),if_neg (by omega)];rw[if_neg (by omega),if_neg (by omega),if_neg (by omega),if_pos C]);have b:=P.a4 j;have K:e.ar.length=2:=by
  unfold jm at b;rw[if_neg (by omega),if_neg (by omega),if_neg (by omega),if_pos (by omega)] at b;have h1:(2:Nat)<=e.ar.length:=b.1;have h3:e.ar.length<=(2:Nat):=b.2;omega
 have H:=qh (λ w' (d:DD w w')=>BD e 5 5 L G K B _ w' (F.o w' d) (aZ N d.size) (M.o w' d).1 (M.o w' d).2);obtain⟨t,h⟩:=af (tx ((insL 5 e.ar).getD 0 [] ++ [32] ++ dH e.op ++ [32] ++ (insL 5 e.ar).getD 1 []));simp only[h] at H;have Y:=qh ((congrArg tx c).trans h);clear m T Q f J L G hj y r c P I j C b K h;show Calls lM 212 #[.agg (Ag e A1 c1 A2 e.ar.length c2)] w _;go_enter func212,ntmps212;go_upto_region 1 with (fail);obtain⟨W,k⟩:=aG ((w.alloc (.cells (Ag e A1 c1 A2 e.ar.length c2) 67 (0,0))));have g:DD w W:=by rw[k];exact ((Below.refl _ w).alloc (aV _) _)
 have B0:ah W (w.heap.size) 67 (Ag e A1 c1 A2 e.ar.length c2):=by
  rw[k];have:=ah.new w 67 (Ag e A1 c1 A2 e.ar.length c2);exact this
 have z:W.heap.size=w.heap.size+1:=by rw[k];simp
 rw[<- k];obtain⟨s,x,D,E,u,v,n,p⟩:=ah.c8 B0;clear k z;go_wp2_with fail;refine (oz e B _ W (F.o W g)).mono ?_;rw[X.o];rintro q U ⟨rfl,i⟩;have o:=g.trans (i.mono g.size);have B0:=B0.below i B0.lt;clear s x D E u v n p i;obtain⟨s,x,D,E,u,v,n,p⟩:=ah.c8 B0;go_wp2_with fail;refine (H.o U o).mono ?_;rintro q W2 ⟨rfl,A⟩;clear s x D E u v n p B0;go_wp2_with fail;go_ret;exact⟨by rw[Y.o];try rfl,o.trans (A.mono o.size)⟩
theorem YB (e:Ex) (j:e.k=4) (C:e.op=15\/e.op=16) (L:∀ a∈e.ar,eu 212 a) (G:∀ a∈e.ar,a.text.length<=1000000000) (hj:∀ l,((insL l e.ar).map a0).sum+98*e.ar.length<=999999000) (y:e.ar.length<=999999) (I:jw e=0) (B:Nat) (cs:List Value) (w:World) (m:bC w B e cs) (N:B<=w.heap.size) (f:Tab w) (J:Mx w) :
  CS 212 #[.agg cs.toArray] w (aM (tx (e.text))):=by
 have P:=kJ I;have S:=qh m;obtain⟨R,r⟩:=af (e.text);rw[r];have c:=r.symm.trans (text_eq e);have M:=qh (λ w' (d:DD w w')=>a1 (aB f d) (J.below d));obtain⟨hn,hs,hl,ha,m,T,Q⟩:=m;rename_i A1 c1 A2 c2 cs;have F:=qh (λ w' (d:DD w w')=>S.o.keep (d.mono N));have O:(e.k == 1)=false:=by rw[j];rfl
 have V:(e.k == 2)=false:=by rw[j];rfl
 have aa:(e.k == 3)=false:=by rw[j];rfl
 have Z:(e.k == 5)=false:=by rw[j];rfl
 rw[if_neg (by omega),if_neg (by omega),if_neg (by omega),if_neg (by omega)] at c;rw[if_neg (by omega),if_neg (by omega),if_neg (by omega),if_neg (by omega),if_pos C] at c;have X:=qh (show gQ e=5 by unfold gQ;rw[if_neg (by omega),if_neg (by omega)];rw[if_neg (by omega),if_neg (by omega),if_neg (by omega),if_neg (by omega),if_pos C]);have b:=P.a4 j;have K:e.ar.length=2:=by
  unfold jm at b;rw[if_neg (by omega),if_neg (by omega),if_neg (by omega),if_pos (by omega)] at b;have h1:(2:Nat)<=e.ar.length:=b.1;have h3:e.ar.length<=(2:Nat):=b.2;omega
 have H:=qh (λ w' (d:DD w w')=>BD e 5 6 L G K B _ w' (F.o w' d) (aZ N d.size) (M.o w' d).1 (M.o w' d).2);obtain⟨t,h⟩:=af (tx ((insL 5 e.ar).getD 0 [] ++ [32] ++ dH e.op ++ [32] ++ (insL 6 e.ar).getD 1 []));simp only[h] at H;have Y:=qh ((congrArg tx c).trans h);clear m T Q f J L G hj y r c P I j C b K h;show Calls lM 212 #[.agg (Ag e A1 c1 A2 e.ar.length c2)] w _;go_enter func212,ntmps212;go_upto_region 1 with (fail);obtain⟨W,k⟩:=aG ((w.alloc (.cells (Ag e A1 c1 A2 e.ar.length c2) 67 (0,0))));have g:DD w W:=by rw[k];exact ((Below.refl _ w).alloc (aV _) _)
 have B0:ah W (w.heap.size) 67 (Ag e A1 c1 A2 e.ar.length c2):=by
  rw[k];have:=ah.new w 67 (Ag e A1 c1 A2 e.ar.length c2);exact this
 have z:W.heap.size=w.heap.size+1:=by rw[k];simp
 rw[<- k];obtain⟨s,x,D,E,u,v,n,p⟩:=ah.c8 B0;clear k z;go_wp2_with fail;refine (oz e B _ W (F.o W g)).mono ?_;rw[X.o];rintro q U ⟨rfl,i⟩;have o:=g.trans (i.mono g.size);have B0:=B0.below i B0.lt;clear s x D E u v n p i;obtain⟨s,x,D,E,u,v,n,p⟩:=ah.c8 B0;go_wp2_with fail;refine (H.o U o).mono ?_;rintro q W2 ⟨rfl,A⟩;clear s x D E u v n p B0;go_wp2_with fail;go_ret;exact⟨by rw[Y.o];try rfl,o.trans (A.mono o.size)⟩
theorem Vk (e:Ex) (j:e.k=4) (C:e.op=17\/e.op=18\/e.op=19) (L:∀ a∈e.ar,eu 212 a) (G:∀ a∈e.ar,a.text.length<=1000000000) (hj:∀ l,((insL l e.ar).map a0).sum+98*e.ar.length<=999999000) (y:e.ar.length<=999999) (I:jw e=0) (B:Nat) (cs:List Value) (w:World) (m:bC w B e cs) (N:B<=w.heap.size) (f:Tab w) (J:Mx w) :
  CS 212 #[.agg cs.toArray] w (aM (tx (e.text))):=by
 have P:=kJ I;have S:=qh m;obtain⟨R,r⟩:=af (e.text);rw[r];have c:=r.symm.trans (text_eq e);have M:=qh (λ w' (d:DD w w')=>a1 (aB f d) (J.below d));obtain⟨hn,hs,hl,ha,m,T,Q⟩:=m;rename_i A1 c1 A2 c2 cs;have F:=qh (λ w' (d:DD w w')=>S.o.keep (d.mono N));have O:(e.k == 1)=false:=by rw[j];rfl
 have V:(e.k == 2)=false:=by rw[j];rfl
 have aa:(e.k == 3)=false:=by rw[j];rfl
 have Z:(e.k == 5)=false:=by rw[j];rfl
 rw[if_neg (by omega),if_neg (by omega),if_neg (by omega),if_neg (by omega)] at c;rw[if_neg (by omega),if_neg (by omega),if_neg (by omega),if_neg (by omega),if_neg (by omega),if_pos C] at c;have X:=qh (show gQ e=6 by unfold gQ;rw[if_neg (by omega),if_neg (by omega)];rw[if_neg (by omega),if_neg (by omega),if_neg (by omega),if_neg (by omega),if_neg (by omega),if_pos C]);have b:=P.a4 j;have K:e.ar.length=2:=by
  unfold jm at b;rw[if_neg (by omega),if_neg (by omega),if_neg (by omega),if_pos (by omega)] at b;have h1:(2:Nat)<=e.ar.length:=b.1;have h3:e.ar.length<=(2:Nat):=b.2;omega
 have H:=qh (λ w' (d:DD w w')=>BD e 6 7 L G K B _ w' (F.o w' d) (aZ N d.size) (M.o w' d).1 (M.o w' d).2);obtain⟨t,h⟩:=af (tx ((insL 6 e.ar).getD 0 [] ++ [32] ++ dH e.op ++ [32] ++ (insL 7 e.ar).getD 1 []));simp only[h] at H;have Y:=qh ((congrArg tx c).trans h);clear m T Q f J L G hj y r c P I j C b K h;show Calls lM 212 #[.agg (Ag e A1 c1 A2 e.ar.length c2)] w _;go_enter func212,ntmps212;go_upto_region 1 with (fail);obtain⟨W,k⟩:=aG ((w.alloc (.cells (Ag e A1 c1 A2 e.ar.length c2) 67 (0,0))));have g:DD w W:=by rw[k];exact ((Below.refl _ w).alloc (aV _) _)
 have B0:ah W (w.heap.size) 67 (Ag e A1 c1 A2 e.ar.length c2):=by
  rw[k];have:=ah.new w 67 (Ag e A1 c1 A2 e.ar.length c2);exact this
 have z:W.heap.size=w.heap.size+1:=by rw[k];simp
 rw[<- k];obtain⟨s,x,D,E,u,v,n,p⟩:=ah.c8 B0;clear k z;go_wp2_with fail;refine (oz e B _ W (F.o W g)).mono ?_;rw[X.o];rintro q U ⟨rfl,i⟩;have o:=g.trans (i.mono g.size);have B0:=B0.below i B0.lt;clear s x D E u v n p i;obtain⟨s,x,D,E,u,v,n,p⟩:=ah.c8 B0;go_wp2_with fail;refine (H.o U o).mono ?_;rintro q W2 ⟨rfl,A⟩;clear s x D E u v n p B0;go_wp2_with fail;go_ret;exact⟨by rw[Y.o];try rfl,o.trans (A.mono o.size)⟩
theorem YC (e:Ex) (p:e.k=4) (ho:e.op=1) (hI:∀ a∈e.ar,eu 212 a) (h9:∀ a∈e.ar,a.text.length<=1000000000) (hj:∀ l,((insL l e.ar).map a0).sum+98*e.ar.length<=999999000) (J:e.ar.length<=999999) (hP:jw e=0) (B:Nat) (cs:List Value) (w:World) (x:bC w B e cs) (M:B<=w.heap.size) (m:Tab w) (hm:Mx w) :
  CS 212 #[.agg cs.toArray] w (aM (tx (e.text))):=by
 have P:=kJ hP;have HX:=qh x;obtain⟨R,hR⟩:=af (e.text);rw[hR];have k:=hR.symm.trans (text_eq e);have jU:=qh (λ w' (n:DD w w')=>a1 (aB m n) (hm.below n));obtain⟨hn,hs,hl,ha,x,hr,hi⟩:=x;rename_i A1 c1 A2 c2 cs;have qM:=qh (λ w' (n:DD w w')=>HX.o.keep (n.mono M));have ap:(e.k == 1)=false:=by rw[p];rfl
 have am:(e.k == 2)=false:=by rw[p];rfl
 have ar:(e.k == 3)=false:=by rw[p];rfl
 have aq:(e.k == 5)=false:=by rw[p];rfl
 rw[if_neg (by omega),if_neg (by omega),if_neg (by omega),if_neg (by omega)] at k;rw[if_neg (by omega),if_neg (by omega),if_pos ho] at k;have QI:=qh (show gQ e=3 by unfold gQ;rw[if_neg (by omega),if_neg (by omega)];simp[ho]);have f:=P.a4 p;have q:e.ar.length=1:=by
  unfold jm at f;rw[if_neg (by omega),if_neg (by omega),if_pos (by omega)] at f;have q:(1:Nat)<=e.ar.length:=f.1;have h3:e.ar.length<=(1:Nat):=f.2;omega
 obtain⟨ad,al,rfl,ab,H,d⟩:=yf hr hi (show 0<e.ar.length by omega);have Z:=wS 3 e.ar 0 (by omega);have C:=h9 _ (a2 (show 0<e.ar.length by omega));have o:=hI _ (a2 (show 0<e.ar.length by omega));obtain⟨a,s⟩:=af (e.ar[0]);rw[s] at H Z C o;have qV:=qh H;obtain⟨z1,z2,z3,z4,ak,T,I⟩:=H;rename_i A3 c3 A4 c4 ao;have g:∀ j u,(aA a A3 c3 A4 c4)[j]?=some u->w.cell? (ad.add j)=some u:=λ j u hu=>by have h:=d j u hu;rwa [a6,kV] at h
 have qi:w.cell? (ad)=some (aE aL a.k):=g 0 _ rfl;have qW:w.cell? ⟨(ad).block,(ad).off+1,none⟩=some (aE aL a.op):=g 1 _ rfl;have xE:w.cell? ⟨(ad).block,(ad).off+2,none⟩=some (aM a.nm):=g 2 _ rfl;have zX:w.cell? ⟨(ad).block,(ad).off+3,none⟩=some (aE aL a.v.k):=g 3 _ rfl;have zY:w.cell? ⟨(ad).block,(ad).off+4,none⟩=some (aE aL a.v.n):=g 4 _ rfl;have zZ:w.cell? ⟨(ad).block,(ad).off+5,none⟩=some (aM a.v.s):=g 5 _ rfl;have Aa:w.cell? ⟨(ad).block,(ad).off+6,none⟩=some (aR A3 a.v.l.length c3):=g 6 _ rfl;have Ac:w.cell? ⟨(ad).block,(ad).off+7,none⟩=some (aR A4 a.ar.length c4):=g 7 _ rfl;have an:=qh q;obtain⟨t,i⟩:=af (tx (rf (decide (gQ a<3)) a.text));have V:=x9 (decide (gQ a<3)) a.text;have st:t.size<=2000000000:=by rw[<- i,kG];omega
 have HJ:=qh (λ w' (n:DD w w') cs' (Y:bC w' B a cs')=>rG a 3 o C B cs' w' Y (aZ M n.size) (jU.o w' n).1 (jU.o w' n).2);simp only[i] at HJ;have HR:=qh (show tx R=⟨#[110,111,116,32]⟩ ++ t by rw[k,Z,<- i,<- ig];rfl);clear x hr hi m hm hI h9 hj J hR k d g ak T I ab s z1 z2 z3 z4 P hP p ho f Z C o i V;change Hid (∀ w',DD w w'->bC w' B e [aE aL e.k,aE aL e.op,aM e.nm,aE aL e.v.k,aE aL e.v.n,aM e.v.s,aR A1 e.v.l.length c1,aR (some ad) e.ar.length c2]) at qM;rw[q] at qM;show Calls lM 212 #[.agg (Ag e A1 c1 (some ad) e.ar.length c2)] w _;rw[q];clear q;go_enter func212,ntmps212;go_upto_region 1 with (fail);obtain⟨W,r⟩:=aG ((w.alloc (.cells (Ag e A1 c1 (some ad) 1 c2) 67 (0,0))));have c:DD w W:=by rw[r];exact ((Below.refl _ w).alloc (aV _) _)
 have B0:ah W (w.heap.size) 67 (Ag e A1 c1 (some ad) 1 c2):=by
  rw[r];have:=ah.new w 67 (Ag e A1 c1 (some ad) 1 c2);exact this
 have X:W.heap.size=w.heap.size+1:=by rw[r];simp
 rw[<- r];obtain⟨N,S,L,E,Q,G,O,z⟩:=ah.c8 B0;have Lu:W.cell? ad=some (aE aL a.k):=Below.cell_of c qi;have LC:W.cell? ⟨ad.block,ad.off+1,none⟩=some (aE aL a.op):=Below.cell_of c qW;have LD:W.cell? ⟨ad.block,ad.off+2,none⟩=some (aM a.nm):=Below.cell_of c xE;have LH:W.cell? ⟨ad.block,ad.off+3,none⟩=some (aE aL a.v.k):=Below.cell_of c zX;have LJ:W.cell? ⟨ad.block,ad.off+4,none⟩=some (aE aL a.v.n):=Below.cell_of c zY;have LK:W.cell? ⟨ad.block,ad.off+5,none⟩=some (aM a.v.s):=Below.cell_of c zZ;have LM:W.cell? ⟨ad.block,ad.off+6,none⟩=some (aR A3 a.v.l.length c3):=Below.cell_of c Aa;have LP:W.cell? ⟨ad.block,ad.off+7,none⟩=some (aR A4 a.ar.length c4):=Below.cell_of c Ac;clear r X qi qW xE zX zY zZ Aa Ac;go_wp2_with fail;refine (oz e B _ W (qM.o W c)).mono ?_;rw[QI.o];rintro F W1 ⟨rfl,b⟩;have v:=c.trans (b.mono c.size);have B0:=B0.below b B0.lt;have aa:=Below.cell_of b Lu;have ae:=Below.cell_of b LC;have ac:=Below.cell_of b LD;have y:=Below.cell_of b LH;have D:=Below.cell_of b LJ;have U:=Below.cell_of b LK;have A:=Below.cell_of b LM;have ag:=Below.cell_of b LP;clear N S L E Q G O z Lu LC LD LH LJ LK LM LP b;obtain⟨N,S,L,E,Q,G,O,z⟩:=ah.c8 B0;go_wp2_with fail;refine (HJ.o W1 v _ (qV.o.keep (v.mono M))).mono ?_;rintro F W2 ⟨rfl,K⟩;clear N S L E Q G O z aa ae ac y D U A ag B0;go_wp2_with fail;go_ret;exact⟨by rw[HR.o];try rfl,v.trans (K.mono v.size)⟩
theorem YD (e:Ex) (v:e.k=4) (ho:e.op=20) (hI:∀ a∈e.ar,eu 212 a) (h9:∀ a∈e.ar,a.text.length<=1000000000) (hj:∀ l,((insL l e.ar).map a0).sum+98*e.ar.length<=999999000) (N:e.ar.length<=999999) (hP:jw e=0) (B:Nat) (cs:List Value) (w:World) (C:bC w B e cs) (U:B<=w.heap.size) (n:Tab w) (hm:Mx w) :
  CS 212 #[.agg cs.toArray] w (aM (tx (e.text))):=by
 have P:=kJ hP;have HX:=qh C;obtain⟨R,hR⟩:=af (e.text);rw[hR];have k:=hR.symm.trans (text_eq e);have jU:=qh (λ w' (o:DD w w')=>a1 (aB n o) (hm.below o));obtain⟨hn,hs,hl,ha,C,hr,hi⟩:=C;rename_i A1 c1 A2 c2 cs;have qM:=qh (λ w' (o:DD w w')=>HX.o.keep (o.mono U));have ax:(e.k == 1)=false:=by rw[v];rfl
 have ar:(e.k == 2)=false:=by rw[v];rfl
 have aD:(e.k == 3)=false:=by rw[v];rfl
 have ay:(e.k == 5)=false:=by rw[v];rfl
 rw[if_neg (by omega),if_neg (by omega),if_neg (by omega),if_neg (by omega)] at k;rw[if_neg (by omega),if_neg (by omega),if_neg (by omega),if_neg (by omega),if_neg (by omega),if_neg (by omega),if_pos ho] at k;have QI:=qh (show gQ e=7 by unfold gQ;rw[if_neg (by omega),if_neg (by omega)];simp[ho]);have g:=P.a4 v;have s:e.ar.length=1:=by
  unfold jm at g;rw[if_neg (by omega),if_neg (by omega),if_pos (by omega)] at g;have s:(1:Nat)<=e.ar.length:=g.1;have h3:e.ar.length<=(1:Nat):=g.2;omega
 obtain⟨ad,aq,rfl,al,L,f⟩:=yf hr hi (show 0<e.ar.length by omega);have hg:=wS 7 e.ar 0 (by omega);have G:=h9 _ (a2 (show 0<e.ar.length by omega));have q:=hI _ (a2 (show 0<e.ar.length by omega));obtain⟨a,m⟩:=af (e.ar[0]);rw[m] at L hg G q;have qV:=qh L;obtain⟨z1,z2,z3,z4,ap,aa,M⟩:=L;rename_i A3 c3 A4 c4 aw;have i:∀ j u,(aA a A3 c3 A4 c4)[j]?=some u->w.cell? (ad.add j)=some u:=λ j u hu=>by have h:=f j u hu;rwa [a6,kV] at h
 have qi:w.cell? (ad)=some (aE aL a.k):=i 0 _ rfl;have qW:w.cell? ⟨(ad).block,(ad).off+1,none⟩=some (aE aL a.op):=i 1 _ rfl;have xE:w.cell? ⟨(ad).block,(ad).off+2,none⟩=some (aM a.nm):=i 2 _ rfl;have zX:w.cell? ⟨(ad).block,(ad).off+3,none⟩=some (aE aL a.v.k):=i 3 _ rfl;have zY:w.cell? ⟨(ad).block,(ad).off+4,none⟩=some (aE aL a.v.n):=i 4 _ rfl;have zZ:w.cell? ⟨(ad).block,(ad).off+5,none⟩=some (aM a.v.s):=i 5 _ rfl;have Aa:w.cell? ⟨(ad).block,(ad).off+6,none⟩=some (aR A3 a.v.l.length c3):=i 6 _ rfl;have Ac:w.cell? ⟨(ad).block,(ad).off+7,none⟩=some (aR A4 a.ar.length c4):=i 7 _ rfl;have av:=qh s;obtain⟨t,r⟩:=af (tx ((if a.k=1/\a.v.k=2/\0<=a.v.n then [45,40] ++ a.text ++ [41] else [45] ++ rf (decide (gQ a<7)) a.text)));have ac:=x9 (decide (gQ a<7)) a.text;have HJ:=qh (λ w' (o:DD w w') cs' (ag:bC w' B a cs')=>QH a q G B cs' w' ag (aZ U o.size) (jU.o w' o).1 (jU.o w' o).2);simp only[r] at HJ;have p:=wS 0 e.ar 0 (by omega);have y:JC e.ar=(decide (a.k=1) && (decide (a.v.k=2) && decide (0<=a.v.n))):=by
  match hr':e.ar,s with
  | [x],_=>(have T:x=a:=by have h:=m;simp only[hr'] at h;exact h);rw[T];rfl
 rw[m] at p;have Q:=XU a;have HR:=qh (show tx R=t by
  rw[k,hg,p,y,<- r];congr 1;by_cases c:a.k=1/\a.v.k=2/\0<=a.v.n
  .rw[if_pos c,if_pos (by simp[c.1,c.2.1,c.2.2])];unfold rf;rw[decide_eq_false (by omega)];rfl
  .rw[if_neg c,if_neg (by simp only[Bool.and_eq_true,decide_eq_true_iff];exact c)])
 clear p y Q;clear C hr hi n hm hI h9 hj N hR k f i ap aa M al m z1 z2 z3 z4 P hP v ho g hg G q r ac;change Hid (∀ w',DD w w'->bC w' B e [aE aL e.k,aE aL e.op,aM e.nm,aE aL e.v.k,aE aL e.v.n,aM e.v.s,aR A1 e.v.l.length c1,aR (some ad) e.ar.length c2]) at qM;rw[s] at qM;show Calls lM 212 #[.agg (Ag e A1 c1 (some ad) e.ar.length c2)] w _;rw[s];clear s;go_enter func212,ntmps212;go_upto_region 1 with (fail);obtain⟨W,z⟩:=aG ((w.alloc (.cells (Ag e A1 c1 (some ad) 1 c2) 67 (0,0))));have d:DD w W:=by rw[z];exact ((Below.refl _ w).alloc (aV _) _)
 have B0:ah W (w.heap.size) 67 (Ag e A1 c1 (some ad) 1 c2):=by
  rw[z];have:=ah.new w 67 (Ag e A1 c1 (some ad) 1 c2);exact this
 have ae:W.heap.size=w.heap.size+1:=by rw[z];simp
 rw[<- z];obtain⟨V,Z,S,I,Y,K,X,E⟩:=ah.c8 B0;have Lu:W.cell? ad=some (aE aL a.k):=Below.cell_of d qi;have LC:W.cell? ⟨ad.block,ad.off+1,none⟩=some (aE aL a.op):=Below.cell_of d qW;have LD:W.cell? ⟨ad.block,ad.off+2,none⟩=some (aM a.nm):=Below.cell_of d xE;have LH:W.cell? ⟨ad.block,ad.off+3,none⟩=some (aE aL a.v.k):=Below.cell_of d zX;have LJ:W.cell? ⟨ad.block,ad.off+4,none⟩=some (aE aL a.v.n):=Below.cell_of d zY;have LK:W.cell? ⟨ad.block,ad.off+5,none⟩=some (aM a.v.s):=Below.cell_of d zZ;have LM:W.cell? ⟨ad.block,ad.off+6,none⟩=some (aR A3 a.v.l.length c3):=Below.cell_of d Aa;have LP:W.cell? ⟨ad.block,ad.off+7,none⟩=some (aR A4 a.ar.length c4):=Below.cell_of d Ac;clear z ae qi qW xE zX zY zZ Aa Ac;go_wp2_with fail;refine (oz e B _ W (qM.o W d)).mono ?_;rw[QI.o];rintro J W1 ⟨rfl,b⟩;have A:=d.trans (b.mono d.size);have B0:=B0.below b B0.lt;have ak:=Below.cell_of b Lu;have an:=Below.cell_of b LC;have am:=Below.cell_of b LD;have D:=Below.cell_of b LH;have H:=Below.cell_of b LJ;have ab:=Below.cell_of b LK;have F:=Below.cell_of b LM;have ao:=Below.cell_of b LP;clear V Z S I Y K X E Lu LC LD LH LJ LK LM LP b;obtain⟨V,Z,S,I,Y,K,X,E⟩:=ah.c8 B0;go_wp2_with fail;refine (HJ.o W1 A _ (qV.o.keep (A.mono U))).mono ?_;rintro J W2 ⟨rfl,O⟩;clear V Z S I Y K X E ak an am D H ab F ao B0;go_wp2_with fail;go_ret;exact⟨by rw[HR.o];try rfl,A.trans (O.mono A.size)⟩
theorem YE (e:Ex) (r:e.k=4) (ho:(12<=e.op/\e.op<=14)\/21<=e.op) (H:∀ a∈e.ar,eu 212 a) (J:∀ a∈e.ar,a.text.length<=1000000000) (M:∀ l,((insL l e.ar).map a0).sum+98*e.ar.length<=999999000) (y:e.ar.length<=999999) (K:jw e=0) (B:Nat) (cs:List Value) (w:World) (x:bC w B e cs) (u:B<=w.heap.size) (j:Tab w) (G:Mx w) :
  CS 212 #[.agg cs.toArray] w (aM (tx (e.text))):=by
 have P:=kJ K;have S:=qh x;obtain⟨R,D⟩:=af (e.text);rw[D];have d:=D.symm.trans (text_eq e);have L:=qh (λ w' (b:DD w w')=>a1 (aB j b) (G.below b));obtain⟨hn,hs,hl,ha,x,I,F⟩:=x;rename_i A1 c1 A2 c2 cs;have qM:=qh (λ w' (b:DD w w')=>S.o.keep (b.mono u));have Z:(e.k == 1)=false:=by rw[r];rfl
 have U:(e.k == 2)=false:=by rw[r];rfl
 have ab:(e.k == 3)=false:=by rw[r];rfl
 have aa:(e.k == 5)=false:=by rw[r];rfl
 rw[if_neg (by omega),if_neg (by omega),if_neg (by omega),if_neg (by omega)] at d;rw[if_neg (by omega),if_neg (by omega),if_neg (by omega),if_neg (by omega),if_neg (by omega),if_neg (by omega),if_neg (by omega)] at d;have QI:=qh (show gQ e=8 by unfold gQ;rw[if_neg (by omega),if_neg (by omega)];rw[if_neg (by omega),if_neg (by omega),if_neg (by omega),if_neg (by omega),if_neg (by omega),if_neg (by omega),if_neg (by omega)]);have A:=M 1;have m:=ru (insL 1 e.ar) [44,32];rw[ou] at m;simp only[a3,a5] at m;have E:=qh (λ w' (b:DD w w')=>Bz e.ar [44,32] 1 H J (by omega) (by omega) A2 c2 B cs w' (I.below (b.mono u)) (λ i h=>(F i h).keep (b.mono u)) (aZ u b.size) (L.o w' b).1 (L.o w' b).2);obtain⟨t,c⟩:=af (tx (Lib.join (insL 1 e.ar) [44,32]));obtain⟨z,f⟩:=af (tx (uz e.op));simp only[c] at E;have st:t.size<=2000000000:=by rw[<- c,kG];omega
 have sf:z.size<=8:=by rw[<- f,kG];exact Ti e.op
 have PW:=qh f;have V:=qh (show tx R=z ++ ⟨#[40]⟩ ++ t ++ ⟨#[41]⟩ by rw[d,<- c,<- f,<- ig,<- ig,<- ig];rfl);clear x I F j G H J M y D d P K r ho A m c f;show Calls lM 212 #[.agg (Ag e A1 c1 A2 e.ar.length c2)] w _;go_enter func212,ntmps212;go_upto_region 1 with (fail);obtain⟨W,q⟩:=aG ((w.alloc (.cells (Ag e A1 c1 A2 e.ar.length c2) 67 (0,0))));have n:DD w W:=by rw[q];exact ((Below.refl _ w).alloc (aV _) _)
 have B0:ah W (w.heap.size) 67 (Ag e A1 c1 A2 e.ar.length c2):=by
  rw[q];have:=ah.new w 67 (Ag e A1 c1 A2 e.ar.length c2);exact this
 have C:W.heap.size=w.heap.size+1:=by rw[q];simp
 rw[<- q];obtain⟨Y,iF,X,Q,iI,T,iK,N⟩:=ah.c8 B0;clear q C;go_wp2_with fail;refine (oz e B _ W (qM.o W n)).mono ?_;rw[QI.o];rintro p g ⟨rfl,k⟩;have v:=n.trans (k.mono n.size);have B0:=B0.below k B0.lt;clear Y iF X Q iI T iK N k;have O:=qh (Later.call (W:=g) (show ∀ w',DD g w'->Calls lM 239 #[aR A2 e.ar.length c2,aM ⟨#[44,32]⟩,aE aL 1] w' λ p o=>p = .returned (aM t)/\DD w' o from λ w' b=>E.o w' (v.trans (b.mono v.size))));have K2:=qh (Later.call (W:=g) (show ∀ w',DD g w'->Calls lM 243 #[aE aL e.op] w' λ p o=>p = .returned (aM z)/\DD w' o from λ w' b=>by have h:=JQ e.op w';rwa [PW.o] at h));have q0:=Later.cell (show g.cell? ⟨w.heap.size,1,none⟩=some (aE aL e.op) from B0.cell 1);have q1:=Later.cell (show g.cell? ⟨w.heap.size,7,none⟩=some (aR A2 e.ar.length c2) from B0.cell 7);clear B0 E;go_upto_region 25 with (fail);refine aU (by kernel_rfl) (by kernel_rfl) ?_
 repeat (go_big_quiet_step (first | with_reducible exact O.o _ | with_reducible exact K2.o _))
 refine wpQuiet_nil ?_;intro W9 s;have gK:=iQ s;clear s;go_wp2_with fail;go_ret;exact⟨by rw[V.o];try rfl,v.trans (gK.mono v.size)⟩
end Go.Proofs.YtcnagconagpkcaaGreatDoor
