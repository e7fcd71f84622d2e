/- Lemmas. -/
import Derived.Test.YtcnagconagpkcaaGreatDoorZ21
open Go.Value renaming int->cU, string->cW, slice->cX, pointer->cY, bool->c0, oneCell'->dv, slice->dT, ownBlock->d0q
open Go.IntKind renaming i64->cV
open Go.Ending renaming returned->c8
open Nat renaming le_trans->da, le_refl->dc, zero_le->de, le_of_eq->dt, lt_of_lt_of_le->dz, eq_zero_or_pos->d7q
open List renaming mem_append->db, nodup_append->dl, mem_append_right->dm, length_append->dp, mem_or_eq_of_mem_set->dq, mem_singleton->dr, mem_cons->du, take_length->dw, mem_append_left->dx, getD_eq_getElem?_getD->dy, not_mem_nil->dN, drop_append_of_le_length->d2q, nil_append->d6q, eq_nil_of_length_eq_zero->d8q, mem_cons_of_mem->d9q, length_set->ea, length_take->eb, getElem_mem->ec, take_succ_eq_append_getElem->ed
open And renaming intro->dj
set_option maxHeartbeats 4000000
set_option maxRecDepth 100000
namespace Go.Proofs.YtcnagconagpkcaaGreatDoor
open Tryz
open Tryz renaming prog->lM
section
open Go.RowKit
attribute [local go_sem ↓] Go.wp_at_zero Go.wp_at_succ
theorem zK {w:World} {B size n:Nat} {e:TypeId} {v:Value} {xs:List Value} (h:w.ownsRow B e size v n xs):w.ownsRow 0 e size v n xs:=
 ⟨h.1,h.2.imp id λ ⟨g,a,cur,b,_,c⟩=>⟨g,a,cur,b,de _,c⟩⟩
abbrev ElP (α:Type):=World->(Nat->Prop)->α->List Value->List Nat->Prop
structure MvP {α:Type} (P:ElP α):Prop where
 mv:∀ {w w1:World} {q q':Nat->Prop} {a:α} {cs:List Value} {M:List Nat},P w q a cs M->(∀ k,q k->k<w.heap.size->q' k)->aK q w w1->aK (λ k=>k∈M) w w1->P w1 q' a cs M
theorem Uj:MvP (λ w q=>lW w q):=⟨λ h b c a=>h.keep b c a⟩
theorem xg:MvP (λ w q=>gq w q):=⟨λ h b c a=>h.keep b c a⟩
theorem agH:MvP (λ w _=>Ie w):=⟨λ h _ _ a=>h.keep a⟩
theorem adI:MvP (λ w _=>rP w):=⟨λ h _ _ a=>h.keep a⟩
def rQ {α:Type} (P:ElP α) (b:Nat) (w:World) (a:α) (cs:List Value):Prop:=∃ M,P w (λ k=>b<=k/\k<w.heap.size/\k ∉ M) a cs M/\M.Nodup/\∀ k∈M,b<=k/\k<w.heap.size
theorem rQ.later {α:Type} {P:ElP α} (f:MvP P) {b:Nat} {w w':World} {a:α} {cs:List Value} (h:rQ P b w a cs) (d:DD w w'):rQ P b w' a cs:=by
 obtain⟨M,i,g,e⟩:=h;have j:=d.size;exact⟨M,f.mv i (λ k c _=>⟨c.1,by omega,c.2.2⟩) (aK.of d) (aK.of d),g,λ k c=>⟨(e k c).1,by have:=(e k c).2;omega⟩⟩
def xB {α:Type} (T:TypeId) (n:Nat) (P:ElP α) (b:Nat) (w:World) (v:Value) (l:List α) (xs:List Value):Prop:=
 w.ownsRow b T n v l.length xs/\(∃ A c,v = cX A l.length c)/\∃ Ls:List (List Nat),Ls.length=l.length/\(fp v ++ Ls.flatten).Nodup/\(∀ k∈fp v ++ Ls.flatten,b<=k/\k<w.heap.size)/\∀ i (h:i<l.length),P w (λ k=>b<=k/\k<w.heap.size/\k ∉ fp v ++ Ls.flatten) l[i] ((xs.drop (i*n)).take n) (Ls.getD i [])
section
variable {α:Type} {T:TypeId} {n:Nat} {P:ElP α} {b:Nat} {w w':World} {v:Value} {l:List α} {xs:List Value}
theorem xB.nil (w:World) (b:Nat):xB T n P b w (cX none 0 0) [] []:=⟨World.ownsRow_nil _ _ _ _,⟨_,_,rfl⟩,[],rfl,by simp[fp,d0q],by simp[fp,d0q],λ i h=>by cases h⟩
theorem xB.later (e:MvP P) (h:xB T n P b w v l xs) (c:DD w w'):xB T n P b w' v l xs:=by
 obtain⟨p,j,o,q,m,d,f⟩:=h;have r:=c.size;exact⟨aQ p c,j,o,q,m,λ k a=>⟨(d k a).1,by have:=(d k a).2;omega⟩,λ i g=>e.mv (f i g) (λ k a _=>⟨a.1,by omega,a.2.2⟩) (aK.of c) (aK.of c)⟩
theorem xB.push (K:MvP P) {w0:World} (h:xB T n P b w0 v l xs) (N:DD w0 w) {a:α} {ds:List Value} (S:rQ P w0.heap.size w a ds) (hn:ds.length=n) {g c:Nat}
  (j:w'.ownsRow b T n (cX (some ⟨g,0,none⟩) (l.length+1) c) (l.length+1) (xs ++ ds)) (H:w.grownBy w' v.ownBlock) (B:v.ownBlock=some g\/w.heap.size<=g) (F:g<w'.heap.size) (U:b<=w0.heap.size) :
  xB T n P b w' (cX (some ⟨g,0,none⟩) (l.length+1) c) (l ++ [a]) (xs ++ ds):=by
 obtain⟨L,-,m,O,G,C,Q⟩:=h;obtain⟨M,V,Y,t⟩:=S;have X:=N.size;have J:=H.size;have Z:xs.length=l.length*n:=L.1;have r:fp (cX (some ⟨g,0,none⟩) (l.length+1) c) = [g]:=rfl;have z:∀ k,some k=v.ownBlock->k<w0.heap.size:=λ k e=>(L.lt k e.symm).2;have A:∀ k,(k ∉ fp v ++ m.flatten/\k<w0.heap.size)\/k∈m.flatten->k≠g:=by
  intro k d e;subst e;rcases B with q | q
  .rcases d with d | d
   .exact d.1 (dx _ (dB.2 q))
   .exact (dl.1 G).2.2 k (dB.2 q) k d rfl
  .rcases d with d | d
   .omega
   .have:=(C k (dm _ d)).2;omega
 have u:∀ k,w0.heap.size<=k->k<w.heap.size->k≠g:=by
  intro k d f e;subst e;rcases B with q | q
  .have:=z k q.symm;omega
  .omega
 have y:∀ {p:Nat->Prop},(∀ k,p k->some k≠v.ownBlock)->aK p w0 w':=λ {p} I=>⟨da X J,λ k d hl=>(H.block k (by omega) (I k d)).trans (N.block k hl)⟩;have x:∀ {p:Nat->Prop},(∀ k,p k->w0.heap.size<=k)->aK p w w':=λ {p} I=>aK.grown H λ k d e=>by have:=I k d;have:=z k e;omega
 have o:(m ++ [M]).flatten=m.flatten ++ M:=by simp
 refine⟨by rw[dp];exact j,⟨_,_,by rw[dp];rfl⟩,m ++ [M],by rw[dp,dp,O];rfl,?_,?_,?_⟩
 .rw[r,o,List.singleton_append,List.nodup_cons,dl];refine⟨λ d=>?_,(dl.1 G).2.1,Y,λ k d k' D e=>?_⟩
  .rcases db.1 d with q | q
   .exact A g (.inr q) rfl
   .exact u g (t g q).1 (t g q).2 rfl
  .subst e;have:=(C k (dm _ d)).2;have:=(t k D).1;omega
 .rw[r,o];intro k d;rcases db.1 d with q | q
  .rw[dr] at q;subst q;exact⟨(j.lt k rfl).1,F⟩
  .rcases db.1 q with q | q
   .have:=C k (dm _ q);exact⟨this.1,by omega⟩
   .have:=t k q;exact⟨by omega,by omega⟩
 .intro i R;rw[dp,List.length_singleton] at R;rw[r,o];by_cases hlt':i<l.length
  .rw[List.getElem_append_left hlt'];have W:(i+1)*n<=l.length*n:=Nat.mul_le_mul_right n hlt';rw[Nat.add_mul,Nat.one_mul] at W;rw[d2q (by omega),List.take_append_of_le_length (by rw[List.length_drop];omega)];have E:(m ++ [M]).getD i []=m.getD i []:=by rw[dy,List.getElem?_append_left (by omega),<- dy]
   rw[E];refine K.mv (Q i hlt') (λ k d f=>⟨d.1,by omega,λ s=>?_⟩) (y λ k d e=>d.2.2 (dx _ (dB.2 e.symm))) (y λ k d e=>(dl.1 G).2.2 k (dB.2 e.symm) k (bM d) rfl);rcases db.1 s with q | q
   .rw[dr] at q;exact A k (.inl ⟨d.2.2,f⟩) q
   .rcases db.1 q with q | q
    .exact d.2.2 (dm _ q)
    .have:=(t k q).1;omega
  .have e:i=l.length:=by omega
   subst e;rw[<- Z,d2q (by omega),List.drop_length,d6q,List.take_of_length_le (by omega)];simp only[List.getElem_append_right (dc _),Nat.sub_self,List.getElem_cons_zero];have E:(m ++ [M]).getD l.length []=M:=by rw[dy,<- O];simp
   rw[E];refine K.mv V (λ k d f=>⟨by omega,by omega,λ s=>?_⟩) (x λ k d=>d.1) (x λ k d=>(t k d).1);rcases db.1 s with q | q
   .rw[dr] at q;exact u k d.1 f q
   .rcases db.1 q with q | q
    .have:=(C k (dm _ q)).2;omega
    .exact d.2.2 q
theorem xB.made (h:xB T n P b w v l xs):∃ L,pV T n (P w (λ k=>b<=k/\k<w.heap.size/\k ∉ L)) w v l L/\L.Nodup/\∀ k∈L,b<=k/\k<w.heap.size:=by
 obtain⟨i,⟨A,c,d⟩,f,j,e,g,a⟩:=h;exact⟨_,⟨A,c,xs,f,d,zK i,j,a,rfl⟩,e,g⟩
end
open Go.Lib in
theorem Gx (l:List ByteArray) (A:Option Addr) (c B:Nat) (w:World) (j:kz w B A c l) (E:l.length<=1048576) :
  Calls lM 61 #[cX A l.length c] w λ e w'=>(∃ v,e = c8 v/\Dk w' v l/\∀ k∈fp v,w.heap.size<=k)/\DD w w':=by
 obtain⟨y,q,g,f,n⟩:=info_parts qB;obtain⟨j,-,-,p⟩:=j;rcases d7q l.length with r | r
 .have t:=d8q r;subst t;cases A with
  | none=>exact (AnyE.slices_Clone_nil Uc 0 c w).mono λ _ _ ⟨i,C⟩=>⟨⟨_,i,⟨⟨_,_,rfl⟩,World.ownsRow_nil _ _ _ _,λ s h=>by cases h⟩,λ k d=>by cases d⟩,C▸Below.refl _ _⟩
  | some a =>
   show Calls _ _ #[cX (some a) 0 c] _ _;have t:∀ w',(binOp .eql 53 (cX (some a) 0 c) (cX none 0 0)).run lM w' = .ok (c0 false) w':=λ _=>by kernel_rfl
   go_enter func61,ntmps61;go_wp2;go_ret;exact⟨⟨_,rfl,⟨⟨_,_,rfl⟩,World.ownsRow_lit w #[] 0 (de _) (de _) rfl,λ s h=>by cases h⟩,λ k d=>by have:=dB.1 d;injection this with this;exact dt this⟩,az _ _⟩
 .obtain⟨b,o,rfl,-,D⟩:=j.plain r;refine (AnyE.slices_Clone Uc y _ 1 16 q g f n rfl (by decide) sizeOf9 b o l.length c (dP l) w (by simp[dP]) (by unfold maxLen;omega) (by omega) D (λ u x=>by simp[dP] at x;obtain⟨s,-,rfl⟩:=x;rfl)).mono λ _ _ h=>?_;obtain⟨v,i,m,-,z⟩:=h;obtain⟨A',c',rfl⟩:=dX m;exact⟨⟨_,i,⟨⟨_,_,rfl⟩,zK m,p⟩,λ k d=>(m.lt k (dB.1 d)).1⟩,z⟩
def xC (b:Nat) (w:World) (l:List Ex) (v:Value):Prop:=∃ A c,v = cX A l.length c/\l.length<=c/\nX w (λ k=>b<=k) A l
theorem xC.keep {b:Nat} {w w':World} {l:List Ex} {v:Value} (h:xC b w l v) (f:DD w w'):xC b w' l v:=by
 obtain⟨A,c,e,a,d⟩:=h;exact⟨A,c,e,a,d.keep (aK.of f)⟩
theorem xC.sets {b g:Nat} {w w':World} {l:List Ex} {v:Value} (h:xC b w l v) (f:aC g w w') (i:g<b):xC b w' l v:=by
 obtain⟨A,c,e,a,d⟩:=h;exact⟨A,c,e,a,d.keep (f.stay λ k j=>by omega)⟩
theorem Py {l:List Ex} {A:Option Addr} {c B b:Nat} {cur:World} (r:aF bC 8 cur B A l) (q:B<=cur.heap.size) (d:yD l<=1048576) (g:b<=cur.heap.size) :
  Calls lM 79 #[cX A l.length c] cur λ f w'=>∃ A' c',f = c8 (cX A' l.length c')/\xC b w' l (cX A' l.length c')/\DD cur w':=by
 refine (Di l cur B A c r q d).mono λ f w' j=>?_;obtain⟨⟨A',c',m,p,cs,o,n⟩,a⟩:=j;exact⟨A',c',m,⟨A',c',rfl,p,cs,o.impl λ k e=>da g e,λ i h=>(n i h).imp λ k e _=>da g e⟩,a⟩
structure P1 (w cur:World) (x:ItemD) (ci:List Value) (o1 o2 o3:Option Value):Prop where
 bel:DD w cur
 le:w.heap.size+2<=cur.heap.size
 b1:ah cur w.heap.size 59 ci.toArray
 b2:ah cur (w.heap.size+1) 59 #[cU cV 0,cW ⟨#[]⟩,cX none 0 0,cX none 0 0,cX none 0 0,c0 false,cX none 0 0,cW ⟨#[]⟩,cU cV 0,cU cV 0,cU cV 0,cU cV 0,cW ⟨#[]⟩,cX none 0 0,c0 false,cX none 0 0,c0 false,cX none 0 0,cX none 0 0]
 e1:∀ v,o1=some v->xC (w.heap.size+2) cur x.iff v
 e2:∀ v,o2=some v->xC (w.heap.size+2) cur x.cnt v
 e3:∀ v,o3=some v->xC (w.heap.size+2) cur x.cmp v
theorem P1.later {w cur w':World} {x:ItemD} {ci:List Value} {b c o3:Option Value} (h:P1 w cur x ci b c o3) (a:DD cur w'):P1 w w' x ci b c o3:=
 ⟨h.bel.trans (a.mono h.bel.size),da h.le a.size,h.b1.below a h.b1.lt,h.b2.below a h.b2.lt,λ v e=>(h.e1 v e).keep a,λ v e=>(h.e2 v e).keep a,λ v e=>(h.e3 v e).keep a⟩
theorem P1.drew {w cur:World} {x:ItemD} {ci:List Value} {a b o3:Option Value} (h:P1 w cur x ci a b o3):P1 w cur.drew x ci a b o3:=h.later (Below.refl _ _).drew
theorem P1.cells {w cur:World} {x:ItemD} {ci:List Value} {a b c:Option Value} (h:P1 w cur x ci a b c):cur.frozen? ⟨w.heap.size,2,none⟩=false/\cur.frozen? ⟨w.heap.size,6,none⟩=false/\cur.frozen? ⟨w.heap.size,18,none⟩=false/\cur.cell? ⟨w.heap.size,2,none⟩=ci[2]?/\cur.cell? ⟨w.heap.size,6,none⟩=ci[6]?/\cur.cell? ⟨w.heap.size,18,none⟩=ci[18]?:=
 ⟨h.b1.frozen _,h.b1.frozen _,h.b1.frozen _,by rw[h.b1.cell];simp,by rw[h.b1.cell];simp,by rw[h.b1.cell];simp⟩
theorem P1.call {w:World} {x:ItemD} {ci:List Value} {l:List Ex} {A:Option Addr} {c B:Nat} (n:aF bC 8 w B A l) (i:B<=w.heap.size) (b:yD l<=1048576) {cur:World} {f d o3:Option Value} (h:P1 w cur x ci f d o3) :
  Calls lM 79 #[cX A l.length c] cur λ e w'=>∃ A' c',e = c8 (cX A' l.length c')/\xC (w.heap.size+2) w' l (cX A' l.length c')/\P1 w w' x ci f d o3:=by
 have g:Below B w cur:=h.bel.mono i;refine (Py (n.keep (λ _ _ q=>q.keep g) g) (da i h.bel.size) b h.le).mono λ e w' j=>?_;obtain⟨A',c',k,m,a⟩:=j;exact⟨A',c',k,m,h.later a⟩
structure Q4 (w w1:World) (p:Nat->Prop) (cur:World) (ci:List Value):Prop where
 bel:DD w cur
 stay:aK p w1 cur
 le:w.heap.size+2<=w1.heap.size
 hp:∀ k,p k->w.heap.size+2<=k
 b1:ah cur w.heap.size 59 ci.toArray
 b2:ah cur (w.heap.size+1) 59 #[cU cV 0,cW ⟨#[]⟩,cX none 0 0,cX none 0 0,cX none 0 0,c0 false,cX none 0 0,cW ⟨#[]⟩,cU cV 0,cU cV 0,cU cV 0,cU cV 0,cW ⟨#[]⟩,cX none 0 0,c0 false,cX none 0 0,c0 false,cX none 0 0,cX none 0 0]
 h19:ci.length=19
 h1c:∀ v∈ci,v.oneCell'=true
def ajZ (w:World) (x:ItemD) (ci:List Value) (wd:World):Prop:=∃ v1 v2 v3,xC (w.heap.size+2) wd x.iff v1/\xC (w.heap.size+2) wd x.cnt v2/\xC (w.heap.size+2) wd x.cmp v3/\Q4 w wd (λ k=>w.heap.size+2<=k) wd (((ci.set 2 v1).set 6 v2).set 18 v3)
theorem P1.end_ {w cur:World} {x:ItemD} {ci:List Value} {v1 v2 v3:Value} (h:P1 w cur x ci (some v1) (some v2) (some v3)) (c:ci.length=19) (b:∀ v∈ci,v.oneCell'=true) :
  ajZ w x ci (((cur.setCell ⟨w.heap.size,2,none⟩ v1).setCell ⟨w.heap.size,6,none⟩ v2).setCell ⟨w.heap.size,18,none⟩ v3):=by
 have a:aC w.heap.size cur (((cur.setCell ⟨w.heap.size,2,none⟩ v1).setCell ⟨w.heap.size,6,none⟩ v2).setCell ⟨w.heap.size,18,none⟩ v3):=(((aC.refl _ _).set 2 v1).set 6 v2).set 18 v3;have B:=(((h.b1.bP 2 v1).bP 6 v2).bP 18 v3);have e:=h.e1 v1 rfl;have f:=h.e2 v2 rfl;have e3:=h.e3 v3 rfl;obtain⟨A1,c1,j,-⟩:=id e;obtain⟨A2,c2,k,-⟩:=id f;obtain⟨A3,c3,i,-⟩:=id e3;have d:=a.size;refine⟨v1,v2,v3,e.sets a (by omega),f.sets a (by omega),e3.sets a (by omega),h.bel.trans (a.below (dc _)),⟨dc _,λ _ _ _=>rfl⟩,by rw[d];exact h.le,λ _ l=>l,by simpa using B,a.blk h.b2 (by omega),by simp[c],λ v g=>?_⟩;rcases dq g with q | q
 .rcases dq q with q | q
  .rcases dq q with q | q
   .exact b v q
   .rw[q,j];rfl
  .rw[q,k];rfl
 .rw[q,i];rfl
section
variable {w w1 cur w':World} {p:Nat->Prop} {ci:List Value}
theorem Q4.size (h:Q4 w w1 p cur ci):w.heap.size+2<=cur.heap.size:=da h.le h.stay.1
theorem Q4.move (h:Q4 w w1 p cur ci) (b:Below (w.heap.size+2) cur w') (c:aK (λ k=>p k/\k<w1.heap.size) cur w'):Q4 w w1 p w' ci:=
 ⟨h.bel.trans (b.mono (by omega)),⟨da h.stay.1 c.1,λ k d a=>(c.2 k ⟨d,a⟩ (dz a h.stay.1)).trans (h.stay.2 k d a)⟩,h.le,h.hp,h.b1.below b (by omega),h.b2.below b (by omega),h.h19,h.h1c⟩
theorem Q4.later (h:Q4 w w1 p cur ci) (a:DD cur w'):Q4 w w1 p w' ci:=h.move (a.mono h.size) ⟨a.size,λ k _ b=>a.block k b⟩
theorem Q4.far (h:Q4 w w1 p cur ci) {g:Nat} (b:aC g cur w') (c:w.heap.size+2<=g) (a:¬ p g\/w1.heap.size<=g):Q4 w w1 p w' ci:=h.move (b.below c) (b.stay λ k d e=>by subst e;exact a.elim (λ q=>q d.1) (λ q=>by omega))
theorem Q4.grown (h:Q4 w w1 p cur ci) {a:Option Nat} (c:cur.grownBy w' a) (b:∀ g,a=some g->w1.heap.size<=g):Q4 w w1 p w' ci:=
 h.move ((Below.refl _ _).grown c h.size (λ g e=>da h.le (b g e))) (aK.grown c λ k d e=>by have:=b k e.symm;omega)
theorem Q4.set (h:Q4 w w1 p cur ci) (i:Nat) {v:Value} (c:v.oneCell'=true):Q4 w w1 p (cur.setCell ⟨w.heap.size,i,none⟩ v) (ci.set i v):=by
 have a:aC w.heap.size cur (cur.setCell ⟨w.heap.size,i,none⟩ v):=(aC.refl _ _).set i v;have B:=h.b1.bP i v;refine⟨h.bel.trans (a.below (dc _)),⟨by rw[a.size];exact h.stay.1,λ k b e=>(a.far k (by have:=h.hp k b;omega)).trans (h.stay.2 k b e)⟩,h.le,h.hp,by simpa using B,a.blk h.b2 (by omega),by simp[h.h19],λ u d=>?_⟩;rcases dq d with q | q
 .exact h.h1c u q
 .rw[q];exact c
theorem Q4.cell (h:Q4 w w1 p cur ci) {i:Nat} {u:Value} (a:ci[i]?=some u):cur.cell? ⟨w.heap.size,i,none⟩=some u/\cur.frozen? ⟨w.heap.size,i,none⟩=false:=⟨by rw[h.b1.cell];simpa using a,h.b1.frozen _⟩
theorem Q4.here (h:Q4 w w1 p cur ci) {p':Nat->Prop} (a:∀ k,p' k->w.heap.size+2<=k):Q4 w cur p' cur ci:=⟨h.bel,⟨dc _,λ _ _ _=>rfl⟩,h.size,a,h.b1,h.b2,h.h19,h.h1c⟩
theorem Q4.mid {an:List Value} {v0 v1 v2 v3 c v5 v6 v7 v8 v9 v10 v11 v12 v13 v14 v15 v16 v17 v18:Value} (h:Q4 w w1 p cur [v0,v1,v2,v3,c,v5,v6,v7,v8,v9,v10,v11,v12,v13,v14,v15,v16,v17,v18]) (d:an.length=10) (g:∀ v∈an,v.oneCell'=true) :
  Q4 w w1 p (cur.setCells w.heap.size 8 an) ([v0,v1,v2,v3,c,v5,v6,v7] ++ an ++ [v18]):=by
 have b:aC w.heap.size cur (cur.setCells w.heap.size 8 an):=aC.many an 8 (aC.refl _ _);have B:=ah.mid (post:=[v18]) an [v8,v9,v10,v11,v12,v13,v14,v15,v16,v17] [v0,v1,v2,v3,c,v5,v6,v7] h.b1 d.symm;refine⟨h.bel.trans (b.below (dc _)),⟨by rw[b.size];exact h.stay.1,λ k e f=>(b.far k (by have:=h.hp k e;omega)).trans (h.stay.2 k e f)⟩,h.le,h.hp,B,b.blk h.b2 (by omega),by simp[d],λ v a=>?_⟩;rcases db.1 a with a | a
 .rcases db.1 a with a | a
  .refine h.h1c v ?_;simp only[du,dN,or_false] at a ⊢;rcases a with rfl | rfl | rfl | rfl | rfl | rfl | rfl | rfl <;> simp
  .exact g v a
 .exact h.h1c v (by simp only[du,dN,or_false] at a;rw[a];simp)
end
structure Q5 (w w1:World) (p:Nat->Prop) (ci:List Value) (g:Nat) (an:List Value) (cur:World):Prop where
 q:Q4 w w1 p cur ci
 b:ah cur g 57 an.toArray
 g1:w.heap.size+2<=g
 g2:¬ p g\/w1.heap.size<=g
 n:an.length=10
 c:∀ v∈an,v.oneCell'=true
section
variable {w w1 cur w':World} {p:Nat->Prop} {ci an:List Value} {g:Nat}
theorem Q5.later (h:Q5 w w1 p ci g an cur) (a:DD cur w'):Q5 w w1 p ci g an w':=⟨h.q.later a,h.b.below a h.b.lt,h.g1,h.g2,h.n,h.c⟩
theorem Q5.drew (h:Q5 w w1 p ci g an cur):Q5 w w1 p ci g an cur.drew:=h.later (Below.refl _ _).drew
theorem Q5.set (h:Q5 w w1 p ci g an cur) (i:Nat) {v:Value} (a:v.oneCell'=true):Q5 w w1 p ci g (an.set i v) (cur.setCell ⟨g,i,none⟩ v):=by
 refine⟨h.q.far ((aC.refl _ _).set i v) h.g1 h.g2,by simpa using h.b.bP i v,h.g1,h.g2,by simp[h.n],λ u b=>?_⟩;rcases dq b with q | q
 .exact h.c u q
 .rw[q];exact a
theorem Q5.cell (h:Q5 w w1 p ci g an cur) {i:Nat} {u:Value} (a:an[i]?=some u):cur.cell? ⟨g,i,none⟩=some u/\cur.frozen? ⟨g,i,none⟩=false:=⟨by rw[h.b.cell];simpa using a,h.b.frozen _⟩
theorem Q5.grown (h:Q5 w w1 p ci g an cur) {a:Option Nat} (c:cur.grownBy w' a) (b:∀ k,a=some k->w1.heap.size<=k/\k≠g):Q5 w w1 p ci g an w':=
 ⟨h.q.grown c λ k e=>(b k e).1,h.b.grown c λ e=>(b g e.symm).2 rfl,h.g1,h.g2,h.n,h.c⟩
end
def PD (b:Nat) (w:World) (l:List Int) (v:Value):Prop:=∃ A c,v = cX A l.length c/\l.length<=c/\ik w (λ k=>b<=k) w.heap.size 1 A l.length (bK cV l)
theorem PD.keep {b:Nat} {w w':World} {l:List Int} {v:Value} (h:PD b w l v) (a:DD w w'):PD b w' l v:=by
 obtain⟨A,c,e,d,f⟩:=h;exact⟨A,c,e,d,(f.keep (aK.of a)).up a.size⟩
theorem PD.sets {b g:Nat} {w w':World} {l:List Int} {v:Value} (h:PD b w l v) (a:aC g w w') (i:g<b):PD b w' l v:=by
 obtain⟨A,c,e,d,f⟩:=h;exact⟨A,c,e,d,(f.keep (a.stay λ k j=>by omega)).up (dt a.size.symm)⟩
structure S5 (w w1:World) (p:Nat->Prop) (ci:List Value) (g:Nat) (an:List Value) (a:lN) (b:Nat) (o5 o7:Option Value) (cur:World):Prop where
 q:Q5 w w1 p ci g an cur
 le:b<=cur.heap.size
 hg:g<b
 e5:∀ v,o5=some v->xC b cur a.only v
 e7:∀ v,o7=some v->PD b cur a.rs v
section
variable {w w1 cur w':World} {p:Nat->Prop} {ci an:List Value} {g b:Nat} {a:lN} {o5 o7:Option Value}
theorem S5.later (h:S5 w w1 p ci g an a b o5 o7 cur) (c:DD cur w'):S5 w w1 p ci g an a b o5 o7 w':=⟨h.q.later c,da h.le c.size,h.hg,λ v e=>(h.e5 v e).keep c,λ v e=>(h.e7 v e).keep c⟩
theorem S5.drew (h:S5 w w1 p ci g an a b o5 o7 cur):S5 w w1 p ci g an a b o5 o7 cur.drew:=h.later (Below.refl _ _).drew
def aj0 (w w1:World) (p:Nat->Prop) (ci:List Value) (g:Nat) (an:List Value) (a:lN) (b:Nat) (wd:World):Prop:=∃ v5 v7,xC b wd a.only v5/\PD b wd a.rs v7/\Q5 w w1 p ci g ((an.set 5 v5).set 7 v7) wd/\b<=wd.heap.size
theorem S5.end_ {v5 v7:Value} (h:S5 w w1 p ci g an a b (some v5) (some v7) cur):aj0 w w1 p ci g an a b ((cur.setCell ⟨g,5,none⟩ v5).setCell ⟨g,7,none⟩ v7):=by
 have c:aC g cur ((cur.setCell ⟨g,5,none⟩ v5).setCell ⟨g,7,none⟩ v7):=((aC.refl _ _).set 5 v5).set 7 v7;have d:=h.e5 v5 rfl;have e:=h.e7 v7 rfl;obtain⟨A5,c5,i,-⟩:=id d;obtain⟨k,l,f,-⟩:=id e;refine⟨v5,v7,d.sets c h.hg,e.sets c h.hg,?_,by rw[c.size];exact h.le⟩;have j:=h.q.set 5 (v:=v5) (by rw[i];rfl);exact j.set 7 (v:=v7) (by rw[f];rfl)
end
structure T9 (P:World->Prop) (b:Nat) (w0:World) (v:Value) (n:Nat) (xs:List Value) (g:Nat) (ds:List Value) (a:dY) (oE:Option (List Value)) (oP:Option Value) (cur:World):Prop where
 p:P cur
 bel:DD w0 cur
 own:cur.ownsRow b 144 10 v n xs
 blk:ah cur g 144 ds.toArray
 el:∃ E:Nat->Prop,(∀ k,E k->w0.heap.size<=k/\k<cur.heap.size)/\(∀ es,oE=some es->bY cur E cur.heap.size a.must es)/\∀ u,oP=some u->Dk cur u a.ph/\∀ k∈fp u,(w0.heap.size<=k/\k<cur.heap.size)/\¬ E k
section
variable {P:World->Prop} {b n g:Nat} {w0 cur w':World} {v:Value} {xs ds:List Value} {a:dY} {oE:Option (List Value)} {oP:Option Value}
theorem T9.later (j:∀ w w',P w->DD w w'->P w') (h:T9 P b w0 v n xs g ds a oE oP cur) (c:DD cur w'):T9 P b w0 v n xs g ds a oE oP w':=by
 obtain⟨E,i,l,f⟩:=h.el;have m:=c.size;exact⟨j _ _ h.p c,h.bel.trans (c.mono h.bel.size),aQ h.own c,h.blk.below c h.blk.lt,E,λ k d=>⟨(i k d).1,by have:=(i k d).2;omega⟩,λ o e=>((l o e).keep (aK.of c)).up m,λ u e=>⟨(f u e).1.keep (aK.of c),λ k d=>⟨⟨((f u e).2 k d).1.1,by have:=((f u e).2 k d).1.2;omega⟩,((f u e).2 k d).2⟩⟩⟩
theorem T9.expr (o:∀ w w',P w->DD w w'->P w') (h:T9 P b w0 v n xs g ds a none oP cur) (f:DD cur w') {i:List Value} (m:bY w' (λ k=>cur.heap.size<=k) w'.heap.size a.must i):T9 P b w0 v n xs g ds a (some i) oP w':=by
 have d:=h.later o f;obtain⟨E,x,s,j⟩:=h.el;have t:=f.size;have l:=h.bel.size;exact⟨d.p,d.bel,d.own,d.blk,λ k=>cur.heap.size<=k/\k<w'.heap.size,λ k c=>⟨by omega,c.2⟩,λ p e=>by injection e with e;subst e;exact m.imp λ k c r=>⟨c,r⟩,λ u e=>⟨(j u e).1.keep (aK.of f),λ k c=>by have:=((j u e).2 k c).1;exact⟨⟨this.1,by omega⟩,λ q=>by omega⟩⟩⟩
theorem T9.phr (o:∀ w w',P w->DD w w'->P w') (h:T9 P b w0 v n xs g ds a oE none cur) (i:DD cur w') {u:Value} (l:Dk w' u a.ph) (j:∀ k∈fp u,cur.heap.size<=k):T9 P b w0 v n xs g ds a oE (some u) w':=by
 have d:=h.later o i;obtain⟨E,f,r,x⟩:=h.el;have s:=i.size;have m:=h.bel.size;exact⟨d.p,d.bel,d.own,d.blk,E,λ k c=>⟨(f k c).1,by have:=(f k c).2;omega⟩,λ p e=>((r p e).keep (aK.of i)).up s,λ t e=>by
  injection e with e;subst e;exact⟨l,λ k c=>⟨⟨by have:=j k c;omega,(l.2.1.lt k (dB.1 c)).2⟩,λ q=>by have:=(f k q).2;have:=j k c;omega⟩⟩⟩
theorem T9.made {d:List Value} {u:Value} (h:T9 P b w0 v n xs g ds a (some d) (some u) cur):rQ (λ w q=>lW w q) w0.heap.size cur a (d ++ [c0 a.soft,u]):=by
 obtain⟨E,e,i,l⟩:=h.el;obtain⟨j,f⟩:=l u rfl;refine⟨fp u,⟨d,u,rfl,(i d rfl).imp λ k c _=>⟨(e k c).1,(e k c).2,λ q=>(f k q).2 c⟩,j,rfl⟩,?_,λ k c=>(f k c).1⟩;unfold fp;cases u.ownBlock <;> simp
end
theorem T9.push {P:World->Prop} {b k g c c4 i:Nat} {w0 cur j:World} {f:Option Addr} {xs ds r lit:List Value} {a:dY} {u:Value} {l:List dY} {o:Obj} (h:T9 P b w0 (cX f k i) k xs g ds a (some r) (some u) cur) (s:xB 144 10 (λ w q=>lW w q) b w0 (cX f k i) l xs) (m:l.length=k) (z:r ++ [c0 a.soft,u]=lit) (x:lit.length=10)
  (d:j.ownsRow b 144 10 (cX (some ⟨c,0,none⟩) (k+1) c4) (k+1) (xs ++ lit)) (y:(cur.alloc o).grownBy j (dT f k i).ownBlock) (p:(dT f k i).ownBlock=some c\/c=(cur.alloc o).heap.size) (n:c<j.heap.size) (v:b<=w0.heap.size) :
  xB 144 10 (λ w q=>lW w q) b j (cX (some ⟨c,0,none⟩) (k+1) c4) (l ++ [a]) (xs ++ lit):=by
 have t:rQ (λ w q=>lW w q) w0.heap.size (cur.alloc o) a lit:=z▸(rQ.later Uj h.made (az cur o));subst m;exact xB.push Uj s (h.bel.trans ((az cur o).mono h.bel.size)) t x d y (p.imp id λ e=>dt e.symm) n v
theorem aK.refl (p:Nat->Prop) (w:World):aK p w w:=⟨dc _,λ _ _ _=>rfl⟩
theorem WL {b s1 s2 s3 s4 s5:Nat} {d:World} {x:ItemD} {A1 A3 A4 B1 B2 A5:Option Addr} {c1 c3 c4 b1 b2 c5:Nat} {j v9:Value} {g:List Nat} {xs:List Value}
  (s:nX d (λ k=>b+2<=k/\k<s1) A1 x.iff/\nX d (λ k=>b+2<=k/\k<s1) A4 x.cnt/\nX d (λ k=>b+2<=k/\k<s1) A5 x.cmp) (K:Dk d j x.ph) (m:∀ k∈fp j,s1<=k/\k<s2)
  (F:nX d (λ k=>s3<=k/\k<s4) B1 x.ans.only) (H:ik d (λ k=>s3<=k/\k<s4) d.heap.size 1 B2 x.ans.rs.length (bK cV x.ans.rs))
  (L:pV 144 10 (lW d (λ k=>s4<=k/\k<s5/\k ∉ g)) d v9 x.ans.ch g) (v:g.Nodup) (h:∀ k∈g,s4<=k/\k<s5)
  (r:xB 59 19 (λ w q=>gq w q) s5 d (cX A3 x.items.length c3) x.items xs) (J:b+2<=s1/\s1<=s2/\s2<=s3/\s3<=s4/\s4<=s5/\s5<=d.heap.size)
  (z:x.iff.length<=c1/\x.cnt.length<=c4/\x.cmp.length<=c5) (n:x.ans.only.length<=b1/\x.ans.rs.length<=b2)
  (C:x.nm.size<=maxLen/\x.over.size<=maxLen/\x.ans.ls.size<=maxLen/\x.iff.length<=maxLen/\x.cnt.length<=maxLen/\x.cmp.length<=maxLen/\x.ans.only.length<=maxLen/\x.ans.rs.length<=maxLen) :
  rQ (λ w q=>gq w q) b d x (Ea x A1 c1 j (cX A3 x.items.length c3) A4 c4 B1 b1 B2 b2 v9 A5 c5):=by
 obtain⟨G,-,p,I,D,t,B⟩:=r;obtain⟨P,N,O,S,o5,Q⟩:=J;have o:∀ k,k∈fp j ++ g ++ (fp (cX A3 x.items.length c3) ++ p.flatten)->(s1<=k/\k<s2)\/(s4<=k/\k<s5/\k∈g)\/(s5<=k/\k∈fp (cX A3 x.items.length c3) ++ p.flatten):=by
  intro k c;rcases db.1 c with c | c
  .rcases db.1 c with c | c
   .exact .inl (m k c)
   .exact .inr (.inl ⟨(h k c).1,(h k c).2,c⟩)
  .exact .inr (.inr ⟨(t k c).1,c⟩)
 have y:∀ k,(b+2<=k/\k<s1)->k<d.heap.size->b<=k/\k<d.heap.size/\k ∉ fp j ++ g ++ (fp (cX A3 x.items.length c3) ++ p.flatten):=λ k c f=>⟨by omega,f,λ q=>by rcases o k q with q | q | q <;> omega⟩;have A:∀ k,(s3<=k/\k<s4)->k<d.heap.size->b<=k/\k<d.heap.size/\k ∉ fp j ++ g ++ (fp (cX A3 x.items.length c3) ++ p.flatten):=λ k c f=>⟨by omega,f,λ q=>by rcases o k q with q | q | q <;> omega⟩;refine⟨fp j ++ g ++ (fp (cX A3 x.items.length c3) ++ p.flatten),.mk ⟨s.1.imp y,s.2.1.imp y,s.2.2.imp y,F.imp A,yJ H A,z.1,z.2.1,z.2.2,n.1,n.2,C⟩ K (L.mono (aK.refl _ _) λ a _ cs M E _=>E.keep (λ k c f=>⟨by omega,f,λ q=>?_⟩) (aK.refl _ _) (aK.refl _ _)) (zK G) I (λ i r=>xg.mv (B i r) (λ k c f=>⟨by omega,f,λ q=>?_⟩) (aK.refl _ _) (aK.refl _ _)),?_,λ k c=>?_⟩
 .rcases o k q with q | q | q
  .omega
  .exact c.2.2 q.2.2
  .omega
 .rcases o k q with q | q | q
  .omega
  .omega
  .exact c.2.2 q.2
 .rw[dl,dl];refine⟨⟨?_,v,λ k c u l e=>?_⟩,D,λ k c u l e=>?_⟩
  .unfold fp;cases j.ownBlock <;> simp
  .have:=m k c;have:=h u l;omega
  .have R:=t u l;rcases db.1 c with c | c
   .have:=m k c;omega
   .have:=h k c;omega
 .rcases o k c with q | q | q
  .omega
  .omega
  .exact⟨by omega,(t k q.2).2⟩
def zL (kv:List (ByteArray × Value)):Ic:=λ w=>match di kv w with | some (cW s)=>s | _=>⟨#[]⟩
structure uP (w:World) (tb mb pl:Nat) (kv:List (ByteArray × Value)):Prop where
 blk:ah w tb 82 #[.map (some mb),cU cV pl]
 map:aO w mb kv
 str:∀ s u,di kv s=some u->∃ t,u = cW t/\t.size<=maxLen
theorem uP.keep {w w':World} {tb a pl:Nat} {kv:List (ByteArray × Value)} (h:uP w tb a pl kv) {L:List Nat} (b:Off L w w') (d:tb ∉ L) (c:a ∉ L):uP w' tb a pl kv:=
 ⟨b.blk h.blk d,h.map.same (b.far a h.map.lt c),h.str⟩
theorem uP.below {w w':World} {tb a pl:Nat} {kv:List (ByteArray × Value)} (h:uP w tb a pl kv) (b:DD w w'):uP w' tb a pl kv:=⟨h.blk.below b h.blk.lt,h.map.below b h.map.lt,h.str⟩
theorem uP.look {w:World} {tb b pl:Nat} {a:List (ByteArray × Value)} (h:uP w tb b pl a) {s:ByteArray} (c:s.size<=maxLen):(Instr.lookup 80 (.map (some b)) (cW s) false).run lM w = .ok (cW (zL a s)) w:=by
 rw[h.map.get (t:=80) (e:=9) underlying80 (z:=.string ⟨#[]⟩) (by kernel_rfl) c];unfold zL;cases hq:di a s with
 | none=>rfl
 | some u =>
  obtain⟨t,rfl,-⟩:=h.str s u hq;rfl
theorem uP.size {w:World} {tb c pl:Nat} {a:List (ByteArray × Value)} (h:uP w tb c pl a) (s:ByteArray):(zL a s).size<=maxLen:=by
 unfold zL;cases hq:di a s with
 | none=>exact de _
 | some u =>
  obtain⟨t,rfl,b⟩:=h.str s u hq;exact b
structure PE (w w':World) (b off:Nat) (v:Value) (ph:List ByteArray) (v':Value):Prop where
 ph:Dk w' v' ph
 fpr:∀ k∈fp v',k∈fp v\/w.heap.size<=k
 RS:Off (b :: fp v) w w'
 blk:∀ T cs,ah w b T cs->ah w' b T (cs.setIfInBounds off v')
theorem aaL (l:List ByteArray) (i:Nat) (s:ByteArray):dP (l.set i s)=(dP l).set i (cW s):=by simp[dP]
theorem WM {pl:Nat} {s:ByteArray} {p:List ByteArray} (b:∀ x∈p,x.size<=maxLen) (c:s.size<=maxLen):∀ x∈oI pl s p,x.size<=maxLen:=by
 intro x a;unfold oI at a;split at a
 .cases a
 split at a
 .rcases db.1 a with q | q
  .exact b x q
  .rw[dr] at q;rw[q];exact c
 .rcases dq a with q | q
  .exact b x q
  .rw[q];exact c
theorem Uk {w:World} {b off:Nat} {T:TypeId} {cs:Array Value} {v:Value} (a:ah w b T cs) (c:w.cell? ⟨b,off,none⟩=some v):cs.setIfInBounds off v=cs:=by
 have:cs[off]?=some v:=by rw[<- a.cell];exact c
 apply Array.ext_getElem?;intro i;rw[Array.getElem?_setIfInBounds];by_cases hi:off=i
 .subst hi;rw[if_pos rfl,this];obtain⟨d,-⟩:=Array.getElem?_eq_some_iff.1 this;rw[if_pos d]
 .rw[if_neg hi]
theorem adJ {w W0 w4:World} {b off g d n i c c4:Nat} {l:List ByteArray} (r:DD w W0) (f:W0.grownBy w4 (some g)) (o:b<w.heap.size) (m:g≠b) (j:d=g\/w.heap.size<=d) (t:w4.ownsRow 0 9 1 (cX (some ⟨d,0,none⟩) i c4) i (dP l)) (C:l.length=i) (s:∀ x∈l,x.size<=maxLen) :
  PE w (w4.setCell ⟨b,off,none⟩ (cX (some ⟨d,0,none⟩) i c4)) b off (cX (some ⟨g,0,none⟩) n c) l (cX (some ⟨d,0,none⟩) i c4):=by
 subst C;have h:aC b w4 (w4.setCell ⟨b,off,none⟩ (cX (some ⟨d,0,none⟩) l.length c4)):=(aC.refl _ _).set off _;have y:=r.size;have z:=f.size;have p:d≠b:=λ e=>by rcases j with q | q <;> omega
 refine⟨⟨⟨_,_,rfl⟩,jP t (h.stay λ k a e=>p (by have:=dB.1 a;injection this with this;exact this.trans e)),s⟩,λ k a=>?_,?_,λ T cs D=>?_⟩
 .have:=dB.1 a;injection this with this;rcases j with q | q
  .exact .inl (dB.2 (by show some g=some k;rw[<- q];exact congrArg some this))
  .exact .inr (by rw[<- this];exact q)
 .have B:Off (b :: fp (cX (some ⟨g,0,none⟩) n c)) w W0:=Off.of r;have v:Off (b :: fp (cX (some ⟨g,0,none⟩) n c)) W0 w4:=Off.grown f λ k e=>by injection e with e;subst e;exact d9q _ (dB.2 rfl)
  have A:Off (b :: fp (cX (some ⟨g,0,none⟩) n c)) w4 (w4.setCell ⟨b,off,none⟩ (cX (some ⟨d,0,none⟩) l.length c4)):=⟨h.os,h.tape,h.output,dt h.size.symm,λ k _ a=>h.far k λ e=>a (by rw[e];exact List.mem_cons_self ..)⟩;exact (B.trans v λ k a=>.inl a).trans A λ k a=>.inl a
 .have u:ah w4 b T cs:=(f.block b (by omega) (λ e=>by injection e with e;exact m e.symm)).trans ((r.block b o).trans D);exact u.bP off _
theorem aaM {w W0:World} {b off g n c i:Nat} {l:List ByteArray} {T:ByteArray} (f:DD w W0) (d:b<w.heap.size) (a:g≠b) (t:W0.ownsRow 0 9 1 (cX (some ⟨g,0,none⟩) n c) n (dP l)) (s:l.length=n) (h:∀ x∈l.set i T,x.size<=maxLen) (u:w.cell? ⟨b,off,none⟩=some (cX (some ⟨g,0,none⟩) n c)) :
  PE w (W0.setCell ⟨g,i,none⟩ (cW T)) b off (cX (some ⟨g,0,none⟩) n c) (l.set i T) (cX (some ⟨g,0,none⟩) n c):=by
 subst s;have p:=f.size;obtain⟨r,m⟩:=t.stored i (cW T);refine⟨⟨⟨some ⟨g,0,none⟩,c,by rw[ea]⟩,by rw[ea,aaL];exact r,h⟩,λ k j=>.inl j,?_,λ v cs o=>?_⟩
 .have q:Off (b :: fp (cX (some ⟨g,0,none⟩) l.length c)) w W0:=Off.of f;exact q.trans (Off.grown (L:=b :: fp (cX (some ⟨g,0,none⟩) l.length c)) m λ k e=>by injection e with e;subst e;exact d9q _ (dB.2 rfl)) λ k j=>.inl j
 .rw[Uk o u];exact (m.block b (by omega) (λ e=>by injection e with e;exact a e.symm)).trans ((f.block b d).trans o)
theorem put_any {w:World} {tb mb pl b off:Nat} {p:List (ByteArray × Value)} {v:Value} {ph:List ByteArray} {wh:ByteArray} (S:uP w tb mb pl p) (O:w.cell? ⟨b,off,none⟩=some v) (Z:w.frozen? ⟨b,off,none⟩=false) (hP:Dk w v ph) (m:b<w.heap.size)
  (K:v.ownBlock≠some b) (hd:tb≠b/\mb≠b/\v.ownBlock≠some tb/\v.ownBlock≠some mb) (hw:wh.size<=maxLen) (B:ph≠[]->pl<=ph.length) (ad:ph.length<=1000000) :
  Calls lM 27 #[cY (some ⟨tb,0,none⟩),cY (some ⟨b,off,none⟩),cW wh] w λ e w'=>e = c8 (.tuple #[])/\∃ v',PE w w' b off v (oI pl (zL p wh) ph) v':=by
 obtain⟨⟨A,c,rfl⟩,D,N⟩:=hP;have V:=qh (WM (pl:=pl) N (S.size wh));rcases d7q ph.length with r | r
 .have e1:=d8q r;subst e1;have G:=qh D;have e2:w.cell? ⟨b,off,none⟩=some (cX A 0 c):=O;clear O D;go_enter func27,ntmps27;go_wp2;refine bodyPost_ret (results_none rfl _ _ _) rfl ?_;refine⟨rfl,cX A 0 c,⟨⟨_,_,rfl⟩,G.o,V.o⟩,λ k hk=>.inl hk,Off.refl _ _,λ T cs hB=>?_⟩;rw[Uk hB e2];exact hB
 have B:=B (by intro e;rw[e] at r;exact absurd r (by decide));have d:oI pl (zL p wh) ph=if pl=ph.length then ph ++ [zL p wh] else ph.set pl (zL p wh):=by
  unfold oI;rw[if_neg (by intro e;rw[e] at r;exact absurd r (by decide))]
 have M:=(uu D).2;obtain⟨g,hA⟩:∃ g,A=some ⟨g,0,none⟩:=by
  rcases D.2 with ⟨-,q⟩ | ⟨g',aE,cur,q,-⟩
  .omega
  .injection q with q;exact⟨_,q⟩
 subst hA;have hg:=D.lt g rfl;have z:g≠b:=λ e=>K (by rw[e];rfl);have X:g≠tb:=λ e=>hd.2.2.1 (by rw[e];rfl);have ak:g≠mb:=λ e=>hd.2.2.2 (by rw[e];rfl);have y:=qh (show ∀ w',DD w w'->w'.cell? ⟨b,off,none⟩=some (cX (some ⟨g,0,none⟩) ph.length c)/\w'.frozen? ⟨b,off,none⟩=false/\w'.cell? ⟨tb,0,none⟩=some (.map (some mb))/\w'.cell? ⟨tb,1,none⟩=some (cU cV pl)/\(Instr.lookup 80 (.map (some mb)) (cW wh) false).run lM w' = .ok (cW (zL p wh)) w' from λ w' C=>by
  have a:=S.below C;refine⟨Below.cell_of C O,?_,a.blk.cell 0,a.blk.cell 1,a.look hw⟩;rw[<- Z];exact World.frozen?_of_block (C.block b m))
 have G:=qh D;have HT:=qh S;have E:=qh (show ∀ W j:World,DD w W->W.grownBy j (some g)->j.cell? ⟨b,off,none⟩=some (cX (some ⟨g,0,none⟩) ph.length c)/\j.frozen? ⟨b,off,none⟩=false/\j.cell? ⟨tb,0,none⟩=some (.map (some mb))/\j.cell? ⟨tb,1,none⟩=some (cU cV pl)/\(Instr.lookup 80 (.map (some mb)) (cW wh) false).run lM j = .ok (cW (zL p wh)) j from λ W j C hg=>by
  have hs:=C.size;have a:=(S.below C).keep (Off.grown (L:=[g]) hg (λ k e=>by injection e with e;simp[e])) (by simp;exact λ e=>X e.symm) (by simp;exact λ e=>ak e.symm);have R:j.heap[b]?=w.heap[b]?:=(hg.block b (by omega) (λ e=>by injection e with e;exact z e.symm)).trans (C.block b m);refine⟨?_,?_,a.blk.cell 0,a.blk.cell 1,a.look hw⟩
  .rw[<- O];exact World.cell?_of_block R
  .rw[<- Z];exact World.frozen?_of_block R)
 obtain⟨T,Q⟩:=af (zL p wh);rw[Q] at y E d V ⊢;have h:=qh d;obtain⟨U,q2,q3,q4,q5⟩:=y.o w (Below.refl _ _);obtain⟨n,hn⟩:=af (ph.length);rw[hn] at U h G y E;have an:0<n:=by omega
 have aq:((n:Int) == 0)=false:=by simp;omega
 have M:n<=c/\n<=maxLen:=by omega
 have ar:n<=1000000:=by omega
 have aD:pl<=n:=by omega
 have F:=qh hn;clear S O Z hw hd K D N d Q B r ad hn;by_cases d:pl=n
 .subst d;obtain⟨i0,ac,al,aa,Y⟩:=info_parts qB;have H:=qh (h.o.trans (if_pos rfl));have ao:∀ o,DD w (w.alloc o):=λ o=>az w o;clear h;go_enter func27,ntmps27;go_upto_region 2 with (fail);go_region
  all_goals
   go_upto_region 2 with (fail);have i:DD w w.drew:=(Below.refl _ _).drew;obtain⟨f,t⟩:=aG (w.drew);rw[<- t] at i ⊢;have ab:=qh (show f.ownsRow 0 9 1 (cX (some ⟨g,0,none⟩) pl c) pl (dP ph) from by rw[t];exact G.o);have s:w.heap.size<=f.heap.size:=i.size;have J:∀ o,DD w (f.alloc o):=λ o=>i.trans ((az f o).mono s);clear t U q2 q3 q4 q5;obtain⟨U,q2,q3,q4,q5⟩:=y.o f i;have ax:b<f.heap.size:=by omega
   have av:tb<f.heap.size:=dz HT.o.blk.lt s;have d5:=(y.o _ i.drew).2.2.2.2;have OV:=λ o=>(show ((f.alloc o).drew).ownsRow 0 9 1 (cX (some ⟨g,0,none⟩) pl c) pl (dP ph) from ab.o.alloc o)
   go_region_law (refine step_append_lies _ rfl _ _ 53 rfl 0 9 i0 (.string ByteArray.empty) 1 16 underlying53 ac al aa Y rfl (by decide) _ pl (dP ph) rfl (OV _) ⟨f.heap.size,0,none⟩ 1 1 [.string T] rfl rfl (World.news_of_block (ah.new f 9 _)) (by intro u hu;simp only[dr] at hu;subst hu;rfl) (by decide) (by unfold maxLen;omega) (by omega) (de _) _ rfl ?_;intro g4 RN j ae I lu am;obtain⟨z1,z2,z3,z4,z5⟩:=E.o _ _ (J _).drew I)
  all_goals
   (try go_wp2_with fail)
   refine bodyPost_ret (results_none rfl _ _ _) rfl ?_;have ap:w.heap.size<=f.heap.size:=s;refine⟨rfl,cX (some ⟨g4,0,none⟩) (pl+1) RN,?_⟩;rw[H.o];have h9:=adJ (off:=off) (n:=pl) (c:=c) (l:=ph ++ [T]) (J _).drew I m z (lu.elim (λ e=>.inl (by injection e with e;exact e.symm)) λ e=>.inr (by rw[e];show w.heap.size<=(f.alloc _).heap.size;simp;omega)) (by rw[Bi];exact ae) (by rw[dp,F.o];rfl) (by rw[<- H.o];exact V.o);rw[F.o];exact h9
 .have H:=qh (h.o.trans (if_neg d));have x:pl<n:=by omega
  have ay:((pl:Int) == (n:Int))=false:=by simp;omega
  have ag:w.cell? ⟨g,pl,none⟩=some (cW (ph[pl]'(by rw[F.o];exact x))):=by
   rw[G.o.cellAt pl (by omega)];unfold dP;rw[List.getElem?_map,List.getElem?_eq_getElem (by rw[F.o];exact x)];rfl
  have aw:=G.o.frozenAt pl;have H1:=qh U;obtain⟨pg,P⟩:=af (ph[pl]'(by rw[F.o];exact x));rw[P] at ag;clear h P;go_enter func27,ntmps27;go_upto_region 3 with (fail);go_region
  all_goals
   go_upto_region 3 with (fail);have d5:=(y.o _ (Below.refl _ _).drew.drew).2.2.2.2;have d4:=(y.o _ (Below.refl _ _).drew).2.2.2.2;go_region
   all_goals
    (try go_wp2_with fail)
    go_end0;refine⟨rfl,cX (some ⟨g,0,none⟩) n c,?_⟩;rw[H.o,F.o];exact aaM (Below.refl _ _).drew.drew m z G.o F.o (by rw[<- H.o];exact V.o) H1.o
end
open Go.RowKit
attribute [local go_sem ↓] Go.wp_at_zero Go.wp_at_succ ld_item st_item ld_ans st_ans ld_rule st_rule bs_item
def aaN (x:ItemD):Prop:=∀ (w:World) (B:Nat) (ci:List Value),dW w B x ci->B<=w.heap.size->x.cu<=1048576->Calls lM 37 #[.agg ci.toArray] w λ en w'=>(∃ co:List Value,en = c8 (.agg co.toArray)/\co.length=19/\(∀ v∈co,v.oneCell'=true)/\rQ (λ w q=>gq w q) w.heap.size w' x co)/\DD w w'
theorem PG {x:ItemD} (a7:∀ it∈x.items,aaN it):aaN x:=by
 intro w B ci hE hB Ul;have cH:=D9 x.items;rw[Ud] at Ul;have cu:=qh (show ∀ it∈x.items,aaN it/\it.cu<=1048576 from λ it h=>⟨a7 it h,by have:=Ue h;omega⟩);cases hE;rename_i A1 c1 A2 c2 A3 c3 A4 c4 A5 c5 B1 b1 B2 b2 B3 b3 cs h1 h2 h4 n ha l1 l3 l4 l5 l6 l7 l8 hr hi;obtain⟨W1,be,bR,K1⟩:=box w 59 (Bd x A1 c1 A2 c2 A3 c3 A4 c4 B1 b1 B2 b2 B3 b3 A5 c5);obtain⟨W2,a8,bl,K2⟩:=box W1 59 #[cU cV 0,cW ⟨#[]⟩,cX none 0 0,cX none 0 0,cX none 0 0,c0 false,cX none 0 0,cW ⟨#[]⟩,cU cV 0,cU cV 0,cU cV 0,cU cV 0,cW ⟨#[]⟩,cX none 0 0,c0 false,cX none 0 0,c0 false,cX none 0 0,cX none 0 0];have hz:W1.heap.size=w.heap.size+1:=by rw[be];simp
 rw[hz] at K2;have cD:W2.heap.size=w.heap.size+2:=by rw[a8];simp[hz]
 obtain⟨ci,a0⟩:∃ ci:List Value,(Ea x A1 c1 (cX A2 x.ph.length c2) (cX A3 x.items.length c3) A4 c4 B1 b1 B2 b2 (cX B3 x.ans.ch.length b3) A5 c5)=ci:=⟨_,rfl⟩;have hR:P1 w W2 x ci none none none:=⟨bR.trans (bl.mono (by omega)),by omega,a0▸(K1.below bl K1.lt),K2,(λ _ e=>by cases e),(λ _ e=>by cases e),(λ _ e=>by cases e)⟩;have qV:=qh (show ci.length=19/\(∀ v∈ci,v.oneCell'=true)/\ci[2]?=some (cX A1 x.iff.length c1)/\ci[6]?=some (cX A4 x.cnt.length c4)/\ci[18]?=some (cX A5 x.cmp.length c5) by
  subst a0;exact⟨rfl,by simp[dv,Ea],rfl,rfl,rfl⟩)
 have KA:=qh (show ∀ cur o1 o2 o3,P1 w cur x ci o1 o2 o3->Calls lM 79 #[cX A1 x.iff.length c1] cur λ L w'=>∃ A' c',L = c8 (cX A' x.iff.length c')/\P1 w w' x ci (some (cX A' x.iff.length c')) o2 o3 from λ cur o1 o2 o3 h=>(P1.call h1 hB (by omega) h).mono λ _ _ ⟨A',c',e,hv,h'⟩=>⟨A',c',e,{ h' with e1:=λ u e=>by injection e with e;exact e▸hv }⟩);have KB:=qh (show ∀ cur o1 o2 o3,P1 w cur x ci o1 o2 o3->Calls lM 79 #[cX A4 x.cnt.length c4] cur λ L w'=>∃ A' c',L = c8 (cX A' x.cnt.length c')/\P1 w w' x ci o1 (some (cX A' x.cnt.length c')) o3 from λ cur o1 o2 o3 h=>(P1.call h4 hB (by omega) h).mono λ _ _ ⟨A',c',e,hv,h'⟩=>⟨A',c',e,{ h' with e2:=λ u e=>by injection e with e;exact e▸hv }⟩);have KC:=qh (show ∀ cur o1 o2 o3,P1 w cur x ci o1 o2 o3->Calls lM 79 #[cX A5 x.cmp.length c5] cur λ L w'=>∃ A' c',L = c8 (cX A' x.cmp.length c')/\P1 w w' x ci o1 o2 (some (cX A' x.cmp.length c')) from λ cur o1 o2 o3 h=>(P1.call n hB (by omega) h).mono λ _ _ ⟨A',c',e,hv,h'⟩=>⟨A',c',e,{ h' with e3:=λ u e=>by injection e with e;exact e▸hv }⟩);have Xe:=qh (dj h2 (dj ha (dj hr (dj hi (dj l8 l3)))));have LU:=qh (show x.nm.size<=maxLen/\x.over.size<=maxLen/\x.ans.ls.size<=maxLen/\x.iff.length<=maxLen/\x.cnt.length<=maxLen/\x.cmp.length<=maxLen/\x.ans.only.length<=maxLen/\x.ans.rs.length<=maxLen from ⟨l6,l7,ha.l5,h1.1,h4.1,n.1,ha.h1.1,ha.l4⟩);clear h1 h2 h4 n ha l1 l3 l4 l5 l6 l7 l8 hr hi bR bl K1 K2 a7;obtain⟨f2,f6,a9,p2,p6,ax⟩:=hR.cells;rw[qV.o.2.2.1] at p2;rw[qV.o.2.2.2.1] at p6;rw[qV.o.2.2.2.2] at ax;have Y:=qh hR;have aw:=qh a0;clear hR a0;change Calls _ _ #[.agg (Bd x A1 c1 A2 c2 A3 c3 A4 c4 B1 b1 B2 b2 B3 b3 A5 c5)] _ _;go_enter func37,ntmps37;go_upto_region 1 with (fail);rw[<- be,<- a8];clear be a8 hz;go_cut [] from 10 to 21 (λ wd=>Hid (ajZ w x ci wd))
 case first =>
  go_region_with (go_at_call 79;(first
   | (with_reducible refine (KA.o _ _ _ _ Y.o).mono ?_)
   | (with_reducible refine (KB.o _ _ _ _ Y.o).mono ?_)
   | (with_reducible refine (KC.o _ _ _ _ Y.o).mono ?_)
   | (with_reducible refine (KA.o _ _ _ _ Y.o.drew).mono ?_)
   | (with_reducible refine (KB.o _ _ _ _ Y.o.drew).mono ?_)
   | (with_reducible refine (KC.o _ _ _ _ Y.o.drew).mono ?_));rintro e9 N ⟨A9,c9,rfl,h9⟩;clear f2 f6 a9 p2 p6 ax Y;have Y:=qh h9;obtain⟨f2,f6,a9,p2,p6,ax⟩:=h9.cells;rw[qV.o.2.2.1] at p2;rw[qV.o.2.2.2.1] at p6;rw[qV.o.2.2.2.2] at ax;clear h9)
  all_goals
   (try go_wp2_with fail)
   go_meet
   exact qh (Y.o.end_ qV.o.1 qV.o.2.1)
 case rest =>
 obtain⟨X,rfl⟩:=aG (wc);obtain⟨v1,v2,v3,x1,x2,x3,hR⟩:=hcut.o;obtain⟨Ij,D,rfl,m1,x1⟩:=x1;obtain⟨Um,WN,rfl,m4,x2⟩:=x2;obtain⟨Un,WO,rfl,m5,x3⟩:=x3;have hR:Q4 w X (λ k=>w.heap.size+2<=k) X (Ea x Ij D (cX A2 x.ph.length c2) (cX A3 x.items.length c3) Um WN B1 b1 B2 b2 (cX B3 x.ans.ch.length b3) Un WO):=by rw[<- aw.o] at hR;exact hR
 clear qV aw KA KB KC f2 f6 a9 p2 p6 ax Y hcut;have HM:=qh (show x.iff.length<=D/\x.cnt.length<=WN/\x.cmp.length<=WO from ⟨m1,m4,m5⟩);have bL:=qh (show ∀ wz,aK (λ k=>w.heap.size+2<=k) X wz->(nX wz (λ k=>w.heap.size+2<=k/\k<X.heap.size) Ij x.iff/\nX wz (λ k=>w.heap.size+2<=k/\k<X.heap.size) Um x.cnt/\nX wz (λ k=>w.heap.size+2<=k/\k<X.heap.size) Un x.cmp) from λ wz st=>⟨(x1.imp λ k d T=>⟨d,T⟩).keep (st.imp λ k d=>d.1),(x2.imp λ k d T=>⟨d,T⟩).keep (st.imp λ k d=>d.1),(x3.imp λ k d T=>⟨d,T⟩).keep (st.imp λ k d=>d.1)⟩);have HB:=qh (show ∀ (wz:World) (p:Nat->Prop) (cur:World) (cj:List Value),Q4 w wz p cur cj->Below B w cur from λ _ _ _ _ h=>h.bel.mono hB);have KP:=qh (Gx x.ph A2 c2 B X (Xe.o.1.keep (HB.o _ _ _ _ hR)) (by omega));obtain⟨p3,q3⟩:=hR.cell (i:=3) rfl;have Y:=qh hR;clear hR x1 x2 x3 m1 m4 m5;generalize (Value.agg (Bd x A1 c1 A2 c2 A3 c3 A4 c4 B1 b1 B2 b2 B3 b3 A5 c5))=T0;go_upto_region 3 with (go_at_call 61;(with_reducible refine KP.o.mono ?_);rintro e9 N ⟨⟨Z,rfl,ZZ,br⟩,gK⟩;obtain⟨⟨A9,c9,rfl⟩,-⟩:=id ZZ;have bd:=Y.o.later gK;clear p3 q3;obtain⟨p3,q3⟩:=bd.cell (i:=3) rfl;have aR:=qh bd;have ar:=qh (dj ZZ br);clear bd ZZ br);obtain⟨Z,bn⟩:∃ v:Value,v = cX A9 x.ph.length c9:=⟨_,rfl⟩;rw[<- bn] at ar ⊢;have cn:Z.oneCell'=true:=by rw[bn];rfl
 obtain⟨W5,wV,aE,bx⟩:∃ W,W=N.setCell ⟨w.heap.size,3,none⟩ Z/\Hid (Q4 w X (λ k=>w.heap.size+2<=k) W (Ea x Ij D Z (cX A3 x.items.length c3) Um WN B1 b1 B2 b2 (cX B3 x.ans.ch.length b3) Un WO))/\aC w.heap.size N W:=⟨_,rfl,qh (aR.o.set 3 cn),(aC.refl _ _).set 3 _⟩;rw[<- wV];have aZ:=qh (show Dk W5 Z x.ph/\∀ k∈fp Z,X.heap.size<=k/\k<W5.heap.size from by
  have hq:=Y.o.size;have DY:Dk W5 Z x.ph:=ar.o.1.keep (bx.stay λ k d e=>by have:=ar.o.2 k d;omega);exact⟨DY,λ k d=>⟨ar.o.2 k d,(DY.2.1.lt k (dB.1 d)).2⟩⟩)
 have cM:X.heap.size<=W5.heap.size:=aE.o.stay.1;have cG:w.heap.size+2<=X.heap.size:=Y.o.size;clear wV bx bn p3 q3 aR ar gK Y KP;have LY:=qh (bL.o W5 aE.o.stay);have bq:=aE.o.here (p':=(λ k=>w.heap.size+2<=k)) λ _ h=>h;have p8:(wL 57 (cY (some ⟨w.heap.size,8,none⟩))).run lM W5 = .ok (.agg (BO x.ans B1 b1 B2 b2 B3 b3)) W5:=wQ (cs:=[cU cV x.ans.k,cU cV x.ans.lo,cU cV x.ans.hi,cU cV x.ans.pl,cW x.ans.ls,cX B1 x.ans.only.length b1,c0 x.ans.sh,cX B2 x.ans.rs.length b2,c0 x.ans.need,cX B3 x.ans.ch.length b3]) rfl (vz (k:=8) bq.b1 (λ j u hu=>by
  rcases j with _ | _ | _ | _ | _ | _ | _ | _ | _ | _ | j
  all_goals first | exact hu | cases hu))
 have ac:=TQ (w:=W5) (cs:=[cU cV x.ans.k,cU cV x.ans.lo,cU cV x.ans.hi,cU cV x.ans.pl,cW x.ans.ls,cX B1 x.ans.only.length b1,c0 x.ans.sh,cX B2 x.ans.rs.length b2,c0 x.ans.need,cX B3 x.ans.ch.length b3]) rfl (by simp[dv]);obtain⟨W6,uN,b5,B6⟩:=box W5 57 (BO x.ans B1 b1 B2 b2 B3 b3);have cL:W6.heap.size=W5.heap.size+1:=by rw[uN];simp
 rw[<- uN] at ac;clear uN;have a1:=qh (show Q5 w W5 (λ k=>w.heap.size+2<=k) (Ea x Ij D Z (cX A3 x.items.length c3) Um WN B1 b1 B2 b2 (cX B3 x.ans.ch.length b3) Un WO) W5.heap.size [cU cV x.ans.k,cU cV x.ans.lo,cU cV x.ans.hi,cU cV x.ans.pl,cW x.ans.ls,cX B1 x.ans.only.length b1,c0 x.ans.sh,cX B2 x.ans.rs.length b2,c0 x.ans.need,cX B3 x.ans.ch.length b3] W6 from ⟨bq.later b5,B6,by omega,.inr (dc _),rfl,by simp[dv]⟩);clear bq aE b5 B6;go_upto_region 4 with (fail);clear p8 ac;obtain⟨Xn,bb⟩:=af ((Ea x Ij D Z (cX A3 x.items.length c3) Um WN B1 b1 B2 b2 (cX B3 x.ans.ch.length b3) Un WO));rw[bb] at a1;have aw:=qh bb;clear bb;obtain⟨ag,ay⟩:∃ l:List Value,[cU cV x.ans.k,cU cV x.ans.lo,cU cV x.ans.hi,cU cV x.ans.pl,cW x.ans.ls,cX B1 x.ans.only.length b1,c0 x.ans.sh,cX B2 x.ans.rs.length b2,c0 x.ans.need,cX B3 x.ans.ch.length b3]=l:=⟨_,rfl⟩;have Q:=qh ay;rw[ay] at a1;have n:S5 w W5 (λ k=>w.heap.size+2<=k) Xn W5.heap.size ag x.ans W6.heap.size none none W6:=⟨a1.o,dc _,by omega,(λ _ e=>by cases e),(λ _ e=>by cases e)⟩;clear a1;have KO:=qh (show ∀ cur o5 o7,S5 w W5 (λ k=>w.heap.size+2<=k) Xn W5.heap.size ag x.ans W6.heap.size o5 o7 cur->Calls lM 79 #[cX B1 x.ans.only.length b1] cur λ L w'=>∃ A' c',L = c8 (cX A' x.ans.only.length c')/\S5 w W5 (λ k=>w.heap.size+2<=k) Xn W5.heap.size ag x.ans W6.heap.size (some (cX A' x.ans.only.length c')) o7 w' from λ cur o5 o7 h=>by
  have U:=HB.o _ _ _ _ h.q.q;have hs:=h.q.q.size;refine (Py (b:=W6.heap.size) (Xe.o.2.1.h1.keep (λ _ _ q=>q.keep U) U) (by omega) (by have:=Ul;unfold lN.cu at this;omega) h.le).mono λ L w' hq=>?_;obtain⟨A',c',he,hx,V⟩:=hq;exact⟨_,_,he,{ h.later V with e5:=λ u e=>by injection e with e;exact e▸hx }⟩)
 have KQ:=qh (show ∀ cur o5 o7,S5 w W5 (λ k=>w.heap.size+2<=k) Xn W5.heap.size ag x.ans W6.heap.size o5 o7 cur->Calls lM 80 #[cX B2 x.ans.rs.length b2] cur λ L w'=>∃ A' c',L = c8 (cX A' x.ans.rs.length c')/\S5 w W5 (λ k=>w.heap.size+2<=k) Xn W5.heap.size ag x.ans W6.heap.size o5 (some (cX A' x.ans.rs.length c')) w' from λ cur o5 o7 h=>by
  have U:=HB.o _ _ _ _ h.q.q;refine (Ua x.ans.rs B2 b2 B cur (Xe.o.2.1.h2.below U) (by have:=Ul;unfold lN.cu at this;omega)).mono λ L w' hq=>?_;obtain⟨v,he,ho,V⟩:=hq;obtain⟨A',c',rfl⟩:=dX ho;exact⟨_,_,he,{ h.later V with e7:=λ u e=>by injection e with e;exact e▸⟨A',c',rfl,ER ho,(yE ho).impl λ k d=>da h.le d⟩ }⟩)
 obtain⟨p5,f5⟩:=n.q.cell (i:=5) (u:=cX B1 x.ans.only.length b1) (by rw[<- ay];rfl);obtain⟨p7,f7⟩:=n.q.cell (i:=7) (u:=cX B2 x.ans.rs.length b2) (by rw[<- ay];rfl);have y:=qh n;clear n ay;go_cut [] from 10 to 35 (λ wd=>Hid (aj0 w W5 (λ k=>w.heap.size+2<=k) Xn W5.heap.size ag x.ans W6.heap.size wd))
 case first =>
  go_region_with ((first | go_at_call 79 | go_at_call 80);(first
   | (with_reducible refine (KO.o _ _ _ y.o).mono ?_)
   | (with_reducible refine (KQ.o _ _ _ y.o).mono ?_)
   | (with_reducible refine (KO.o _ _ _ y.o.drew).mono ?_)
   | (with_reducible refine (KQ.o _ _ _ y.o.drew).mono ?_));rintro e9 N ⟨cP,cE,rfl,h9⟩;clear p5 f5 p7 f7 y;have y:=qh h9;obtain⟨p5,f5⟩:=h9.q.cell (i:=5) (u:=cX B1 x.ans.only.length b1) (by rw[<- Q.o];rfl);obtain⟨p7,f7⟩:=h9.q.cell (i:=7) (u:=cX B2 x.ans.rs.length b2) (by rw[<- Q.o];rfl);clear h9)
  all_goals
   (try go_wp2_with fail)
   go_meet
   exact qh y.o.end_
 case rest =>
 obtain⟨wp,rfl⟩:=aG (wc);obtain⟨v5,v7,x5,x7,n,cR⟩:=hcut.o;obtain⟨H,f,rfl,m5,x5⟩:=x5;obtain⟨I,m,rfl,m7,x7⟩:=x7;have n:Q5 w W5 (λ k=>w.heap.size+2<=k) Xn W5.heap.size [cU cV x.ans.k,cU cV x.ans.lo,cU cV x.ans.hi,cU cV x.ans.pl,cW x.ans.ls,cX H x.ans.only.length f,c0 x.ans.sh,cX I x.ans.rs.length m,c0 x.ans.need,cX B3 x.ans.ch.length b3] wp:=by rw[<- Q.o] at n;exact n
 clear KO KQ p5 f5 p7 f7 y hcut Q;have ca:=qh (show ∀ wz,aK (λ k=>w.heap.size+2<=k/\k≠W5.heap.size) wp wz->(nX wz (λ k=>w.heap.size+2<=k/\k<X.heap.size) Ij x.iff/\nX wz (λ k=>w.heap.size+2<=k/\k<X.heap.size) Um x.cnt/\nX wz (λ k=>w.heap.size+2<=k/\k<X.heap.size) Un x.cmp)/\(Dk wz Z x.ph)/\nX wz (λ k=>W6.heap.size<=k/\k<wp.heap.size) H x.ans.only/\ik wz (λ k=>W6.heap.size<=k/\k<wp.heap.size) wz.heap.size 1 I x.ans.rs.length (bK cV x.ans.rs) from λ wz st=>by
  have s1:aK (λ k=>w.heap.size+2<=k/\k<W5.heap.size) W5 wz:=⟨da n.q.stay.1 st.1,λ k d T=>(st.2 k ⟨d.1,by omega⟩ (by omega)).trans (n.q.stay.2 k d.1 T)⟩;obtain⟨e1,e2,e3⟩:=LY.o;exact⟨⟨e1.keep (s1.imp λ k d=>⟨d.1,by omega⟩),e2.keep (s1.imp λ k d=>⟨d.1,by omega⟩),e3.keep (s1.imp λ k d=>⟨d.1,by omega⟩)⟩,aZ.o.1.keep (s1.imp λ k d=>by have:=aZ.o.2 k d;exact⟨by omega,this.2⟩),
   (x5.imp λ k d T=>⟨d,T⟩).keep (st.imp λ k d=>⟨by omega,by omega⟩),((yJ x7 λ k d T=>⟨d,T⟩).keep (st.imp λ k d=>⟨by omega,by omega⟩)).up st.1⟩)
 have cf:=qh (show x.ans.only.length<=f/\x.ans.rs.length<=m from ⟨m5,m7⟩);have n:Q5 w wp (λ k=>w.heap.size+2<=k/\k≠W5.heap.size) Xn W5.heap.size [cU cV x.ans.k,cU cV x.ans.lo,cU cV x.ans.hi,cU cV x.ans.pl,cW x.ans.ls,cX H x.ans.only.length f,c0 x.ans.sh,cX I x.ans.rs.length m,c0 x.ans.need,cX B3 x.ans.ch.length b3] wp:=⟨n.q.here λ k d=>d.1,n.b,n.g1,.inl λ q=>q.2 rfl,n.n,n.c⟩;clear LY x5 x7 m5 m7 bL;obtain⟨an,a3⟩:∃ l:List Value,[cU cV x.ans.k,cU cV x.ans.lo,cU cV x.ans.hi,cU cV x.ans.pl,cW x.ans.ls,cX H x.ans.only.length f,c0 x.ans.sh,cX I x.ans.rs.length m,c0 x.ans.need,cX B3 x.ans.ch.length b3]=l:=⟨_,rfl⟩;have Q:=qh a3;rw[a3] at n;obtain⟨p9,f9⟩:=n.cell (i:=9) (u:=cX B3 x.ans.ch.length b3) (by rw[<- a3];rfl);have y:=qh n;clear n a3;obtain⟨j0,cv,cc,cz,ct⟩:=info_parts aaD;have bg:x.ans.ch.length<=1048576/\∀ r∈x.ans.ch,r.must.bl<=1048576/\r.ph.length<=1048576:=by
  have:=Ul;unfold lN.cu at this;have h1:=Uf x.ans.ch;exact⟨by omega,λ r hr=>by have:=Lc hr;omega⟩
 have Zl:=qh bg.2;have bg:=bg.1;go_wp2;clear p9 f9;go_loopw [39,4] (λ i v wr=>∃ k:Nat,i = cU cV k/\k<=x.ans.ch.length/\Hid (∃ xs,xB 144 10 (λ w q=>lW w q) wp.heap.size wr v (x.ans.ch.take k) xs)/\Hid (Q5 w wp (λ k=>w.heap.size+2<=k/\k≠W5.heap.size) Xn W5.heap.size an wr)/\wp.heap.size<=wr.heap.size) (λ i _ _=>x.ans.ch.length+1 - (intOf i).toNat)
 case atStart=>exact⟨0,rfl,de _,qh ⟨[],xB.nil _ _⟩,y,dc _⟩
 case round =>
  obtain⟨k,rfl,d,HO,y,cw⟩:=hrel;obtain⟨xs,ho⟩:=HO.o;have E:(x.ans.ch.take k).length=k:=by rw[eb];omega
  obtain⟨s,t,bO⟩:=dX ho.1;rw[E] at bO;subst bO;have WQ:=qh ho;clear ho HO;by_cases hlt:k<x.ans.ch.length
  case pos =>
   have U:=HB.o _ _ _ _ y.o.q;obtain⟨ae,rc,rfl,bf,⟨es,am,ak,rfl,hE,oO⟩,o⟩:=aF.at_ (aF.keep (λ _ _ h=>h.keep U) Xe.o.2.1.h3 U) hlt;have R:=qh (Zl.o _ (ec hlt));have jr:=qh (ed hlt);obtain⟨a,ha⟩:=af (x.ans.ch[k]);rw[ha] at hE o oO R jr;have aV:=qh hlt;obtain⟨e,he⟩:=af (a.must);have cq:=qh he;rw[he] at hE R;have HE:=qh hE;obtain⟨-,-,-,-,-,-,-⟩:=hE;rename_i av aq ap ao cF;obtain⟨ds,al⟩:∃ ds:List Value,[cU cV e.k,cU cV e.op,cW e.nm,cU cV e.v.k,cU cV e.v.n,cW e.v.s,cX av e.v.l.length aq,cX ap e.ar.length ao,c0 a.soft,cX am a.ph.length ak]=ds:=⟨_,rfl⟩;have o:∀ j u,ds[j]?=some u->wr.cell? ((ae.add (k*10)).add j)=some u:=by subst al;exact o
   have EZ:=Gl (w:=wr) (ad:=ae.add (k*10)) (show ds.length=10 by subst al;rfl) o;have a6:=Gm (w:=wr) (show ds.length=10 by subst al;rfl) (by subst al;simp[dv]);obtain⟨W7,RP,C,B7⟩:=box wr 144 ds.toArray;rw[<- RP] at a6;clear RP;obtain⟨P,bj⟩:∃ P:World->Prop,P=λ cur=>Q5 w wp (λ k=>w.heap.size+2<=k/\k≠W5.heap.size) Xn W5.heap.size an cur:=⟨_,rfl⟩;have HP:=qh (show (∀ cur w',P cur->DD cur w'->P w')/\∀ cur,P cur->Q5 w wp (λ k=>w.heap.size+2<=k/\k≠W5.heap.size) Xn W5.heap.size an cur from by
    subst bj;exact⟨λ _ _ q U=>q.later U,λ _ q=>q⟩)
   have ab:B<=wr.heap.size:=da hB U.size;have Jc:=qh (show kz wr B am ak a.ph from oO);have aa:=WQ.o.1;rw[E] at aa;have hS:T9 P wp.heap.size wr (cX s k t) k xs wr.heap.size ds a none none W7:=⟨bj▸y.o.later C,C,aQ aa C,B7,λ _=>False,(λ _ q=>q.elim),(λ _ e=>by cases e),(λ _ e=>by cases e)⟩;have KX:=qh (show ∀ cur oP,T9 P wp.heap.size wr (cX s k t) k xs wr.heap.size ds a none oP cur->Calls lM 81 #[.agg (Ag e av aq ap e.ar.length ao)] cur λ L w'=>∃ A c A' c',L = c8 (.agg (Ag e A c A' e.ar.length c'))/\T9 P wp.heap.size wr (cX s k t) k xs wr.heap.size ds a (some (aA e A c A' c')) oP w' from λ cur oP h=>by
    refine (Gv e cur B (aA e av aq ap ao) (HE.o.keep (h.bel.mono ab)) (da ab h.bel.size) R.o.1).mono λ L w' hq=>?_;obtain⟨⟨A,c,A',c',bm,hx⟩,V⟩:=hq;exact⟨A,c,A',c',bm,h.expr HP.o.1 V (by rw[cq.o];exact hx)⟩)
   have KP:=qh (show ∀ cur oE,T9 P wp.heap.size wr (cX s k t) k xs wr.heap.size ds a oE none cur->Calls lM 61 #[cX am a.ph.length ak] cur λ L w'=>∃ A' c',L = c8 (cX A' a.ph.length c')/\T9 P wp.heap.size wr (cX s k t) k xs wr.heap.size ds a oE (some (cX A' a.ph.length c')) w' from λ cur oE h=>by
    refine (Gx a.ph am ak B cur (Jc.o.keep (h.bel.mono ab)) R.o.2).mono λ L w' hq=>?_;obtain⟨⟨v,bm,bs,ch⟩,V⟩:=hq;obtain⟨⟨A',c',rfl⟩,-⟩:=id bs;exact⟨A',c',bm,h.phr HP.o.1 V bs ch⟩)
   have O:=qh hS;clear o bf ha he U oO C B7 hlt bj;go_upto_region 9 with (fail);clear EZ a6;have zs:∀ cur,ah cur wr.heap.size 144 ds.toArray->cur.cell? ⟨wr.heap.size,0,none⟩=some (cU cV e.k)/\cur.cell? ⟨wr.heap.size,1,none⟩=some (cU cV e.op)/\cur.cell? ⟨wr.heap.size,2,none⟩=some (cW e.nm)/\cur.cell? ⟨wr.heap.size,3,none⟩=some (cU cV e.v.k)/\cur.cell? ⟨wr.heap.size,4,none⟩=some (cU cV e.v.n)/\cur.cell? ⟨wr.heap.size,5,none⟩=some (cW e.v.s)/\cur.cell? ⟨wr.heap.size,6,none⟩=some (cX av e.v.l.length aq)/\cur.cell? ⟨wr.heap.size,7,none⟩=some (cX ap e.ar.length ao)/\cur.cell? ⟨wr.heap.size,8,none⟩=some (c0 a.soft)/\cur.cell? ⟨wr.heap.size,9,none⟩=some (cX am a.ph.length ak):=λ cur h=>by
    subst al;exact⟨h.cell 0,h.cell 1,h.cell 2,h.cell 3,h.cell 4,h.cell 5,h.cell 6,h.cell 7,h.cell 8,h.cell 9⟩
   have HZ:=qh zs;have bp:∀ g,(dT s k t).ownBlock=some g->wp.heap.size<=g/\g<wr.heap.size:=λ g hg=>aa.lt g hg;clear zs al aa;obtain⟨z0,z1,z2,z3,z4,z5,z6,z7,z8,z9⟩:=HZ.o _ hS.blk;clear hS;go_region_held3 (λ cur=>cur.cell? ⟨wr.heap.size,0,none⟩=some (cU cV e.k)/\cur.cell? ⟨wr.heap.size,1,none⟩=some (cU cV e.op)/\cur.cell? ⟨wr.heap.size,2,none⟩=some (cW e.nm)/\cur.cell? ⟨wr.heap.size,3,none⟩=some (cU cV e.v.k)/\cur.cell? ⟨wr.heap.size,4,none⟩=some (cU cV e.v.n)/\cur.cell? ⟨wr.heap.size,5,none⟩=some (cW e.v.s)/\cur.cell? ⟨wr.heap.size,6,none⟩=some (cX av e.v.l.length aq)/\cur.cell? ⟨wr.heap.size,7,none⟩=some (cX ap e.ar.length ao)/\cur.cell? ⟨wr.heap.size,8,none⟩=some (c0 a.soft)/\cur.cell? ⟨wr.heap.size,9,none⟩=some (cX am a.ph.length ak))
    (first | exact HZ.o _ O.o.blk | exact HZ.o _ O.o.blk.drew | exact HZ.o _ (O.o.blk.alloc _) | exact HZ.o _ b7)
    (first
    | (go_at_call 81;(first | (with_reducible refine (KX.o _ _ O.o).mono ?_) | (with_reducible refine (KX.o _ _ (O.o.later HP.o.1 (Below.refl _ _).drew)).mono ?_));rintro e9 N ⟨A5,c5,A6,c6,rfl,h9⟩;clear O;have O:=qh h9;clear h9)
    | (go_at_call 61;(first | (with_reducible refine (KP.o _ _ O.o).mono ?_) | (with_reducible refine (KP.o _ _ (O.o.later HP.o.1 (Below.refl _ _).drew)).mono ?_));rintro e9 N ⟨A7,c7,rfl,h9⟩;clear O;have O:=qh h9;clear h9)
    | (refine step_append_lies _ rfl _ _ 55 rfl wp.heap.size 144 j0 (.agg #[.int .i64 0,.int .i64 0,.string ⟨#[]⟩,.int .i64 0,.int .i64 0,.string ⟨#[]⟩,.slice none 0 0,.slice none 0 0,.bool false,.slice none 0 0]) 10 144 underlying55 cv cc cz ct rfl (by decide) _ k xs rfl (O.o.own.alloc _) ⟨N.heap.size,0,none⟩ 1 1 [.int .i64 e.k,.int .i64 e.op,.string e.nm,.int .i64 e.v.k,.int .i64 e.v.n,.string e.v.s,.slice A5 e.v.l.length c5,.slice A6 e.ar.length c6,.bool a.soft,.slice A7 a.ph.length c7] rfl rfl (World.news_of_block (ah.new N 144 _)) (by intro u hu;simp only[du,dN,or_false] at hu;rcases hu with rfl | rfl | rfl | rfl | rfl | rfl | rfl | rfl | rfl | rfl <;> rfl) (by decide) (by unfold maxLen;omega) (by omega) (by have:=O.o.bel.size;simp;omega) _ rfl ?_;intro g4 RN w4 z F lu K;have b7:=(O.o.blk.alloc (.cells #[.int .i64 e.k,.int .i64 e.op,.string e.nm,.int .i64 e.v.k,.int .i64 e.v.n,.string e.v.s,.slice A5 e.v.l.length c5,.slice A6 e.ar.length c6,.bool a.soft,.slice A7 a.ph.length c7] 144 (0,0))).grown F (λ e=>by have:=bp _ e.symm;omega)))
   all_goals
    have cJ:=O.o.bel.size;have bi:=qh (((HP.o.2 _ O.o.p).later (az N (.cells #[cU cV e.k,cU cV e.op,cW e.nm,cU cV e.v.k,cU cV e.v.n,cW e.v.s,cX A5 e.v.l.length c5,cX A6 e.ar.length c6,c0 a.soft,cX A7 a.ph.length c7] 144 (0,0)))).grown F (λ g hg=>⟨(bp g hg).1,by have:=(bp g hg).1;omega⟩));have sF:=qh (show xB 144 10 (λ w q=>lW w q) wp.heap.size w4 (cX (some ⟨g4,0,none⟩) (k+1) RN) (x.ans.ch.take (k+1)) (xs ++ [cU cV e.k,cU cV e.op,cW e.nm,cU cV e.v.k,cU cV e.v.n,cW e.v.s,cX A5 e.v.l.length c5,cX A6 e.ar.length c6,c0 a.soft,cX A7 a.ph.length c7]) from by rw[jr.o];exact O.o.push WQ.o E rfl rfl z F lu K cw);have bh:wp.heap.size<=w4.heap.size:=by have:=F.size;simp at this;omega
    clear z F lu K b7
    (try go_wp2_with fail)
    go_roundw
    case rel=>exact⟨k+1,by go_num,aV.o,qh ⟨_,sF.o⟩,bi,bh⟩
    case measure =>
     have:=aV.o;simp[intOf];omega
  case neg =>
   obtain rfl:k=x.ans.ch.length:=by omega
   obtain⟨p9,f9⟩:=y.o.cell (i:=9) (u:=cX B3 x.ans.ch.length b3) (by rw[<- Q.o];rfl);go_upto_region 12 with (fail);have n:=y.o.set 9 (v:=cX s x.ans.ch.length t) rfl;have aD:aC W5.heap.size wr (wr.setCell ⟨W5.heap.size,9,none⟩ (cX s x.ans.ch.length t)):=(aC.refl _ _).set 9 _;obtain⟨RU,bt⟩:=aG (wr.setCell ⟨W5.heap.size,9,none⟩ (cX s x.ans.ch.length t));rw[<- bt] at n aD ⊢;clear bt p9 f9;have n:Q5 w wp (λ k=>w.heap.size+2<=k/\k≠W5.heap.size) Xn W5.heap.size [cU cV x.ans.k,cU cV x.ans.lo,cU cV x.ans.hi,cU cV x.ans.pl,cW x.ans.ls,cX H x.ans.only.length f,c0 x.ans.sh,cX I x.ans.rs.length m,c0 x.ans.need,cX s x.ans.ch.length t] RU:=by rw[<- Q.o] at n;exact n
   have n:Q5 w wp (λ k=>w.heap.size+2<=k/\k≠W5.heap.size) (Ea x Ij D Z (cX A3 x.items.length c3) Um WN B1 b1 B2 b2 (cX B3 x.ans.ch.length b3) Un WO) W5.heap.size [cU cV x.ans.k,cU cV x.ans.lo,cU cV x.ans.hi,cU cV x.ans.pl,cW x.ans.ls,cX H x.ans.only.length f,c0 x.ans.sh,cX I x.ans.rs.length m,c0 x.ans.need,cX s x.ans.ch.length t] RU:=by rw[<- aw.o] at n;exact n
   have bE:(wL 57 (cY (some ⟨W5.heap.size,0,none⟩))).run lM RU = .ok (.agg (BO x.ans H f I m s t)) RU:=wQ (cs:=[cU cV x.ans.k,cU cV x.ans.lo,cU cV x.ans.hi,cU cV x.ans.pl,cW x.ans.ls,cX H x.ans.only.length f,c0 x.ans.sh,cX I x.ans.rs.length m,c0 x.ans.need,cX s x.ans.ch.length t]) rfl (gZ n.b);have ac:(Hr 57 (cY (some ⟨w.heap.size,8,none⟩)) (.agg (BO x.ans H f I m s t))).run lM RU = .ok () (RU.setCells w.heap.size 8 [cU cV x.ans.k,cU cV x.ans.lo,cU cV x.ans.hi,cU cV x.ans.pl,cW x.ans.ls,cX H x.ans.only.length f,c0 x.ans.sh,cX I x.ans.rs.length m,c0 x.ans.need,cX s x.ans.ch.length t]):=D8 (vs:=[cU cV x.ans.k,cU cV x.ans.lo,cU cV x.ans.hi,cU cV x.ans.pl,cW x.ans.ls,cX H x.ans.only.length f,c0 x.ans.sh,cX I x.ans.rs.length m,c0 x.ans.need,cX s x.ans.ch.length t]) n.q.b1 (by simp[Ea]) (by kernel_rfl) n.c;have h6:Q4 w wp (λ k=>w.heap.size+2<=k/\k≠W5.heap.size) (RU.setCells w.heap.size 8 [cU cV x.ans.k,cU cV x.ans.lo,cU cV x.ans.hi,cU cV x.ans.pl,cW x.ans.ls,cX H x.ans.only.length f,c0 x.ans.sh,cX I x.ans.rs.length m,c0 x.ans.need,cX s x.ans.ch.length t]) (Ea x Ij D Z (cX A3 x.items.length c3) Um WN H f I m (cX s x.ans.ch.length t) Un WO):=Q4.mid (an:=[cU cV x.ans.k,cU cV x.ans.lo,cU cV x.ans.hi,cU cV x.ans.pl,cW x.ans.ls,cX H x.ans.only.length f,c0 x.ans.sh,cX I x.ans.rs.length m,c0 x.ans.need,cX s x.ans.ch.length t]) n.q rfl n.c;have Gy:aC w.heap.size RU (RU.setCells w.heap.size 8 [cU cV x.ans.k,cU cV x.ans.lo,cU cV x.ans.hi,cU cV x.ans.pl,cW x.ans.ls,cX H x.ans.only.length f,c0 x.ans.sh,cX I x.ans.rs.length m,c0 x.ans.need,cX s x.ans.ch.length t]):=aC.many _ 8 (aC.refl _ _);obtain⟨Dz,b6⟩:=aG (RU.setCells w.heap.size 8 [cU cV x.ans.k,cU cV x.ans.lo,cU cV x.ans.hi,cU cV x.ans.pl,cW x.ans.ls,cX H x.ans.only.length f,c0 x.ans.sh,cX I x.ans.rs.length m,c0 x.ans.need,cX s x.ans.ch.length t]);rw[<- b6] at ac h6 Gy;clear b6;have Uo:aK (λ k=>wp.heap.size<=k) wr Dz:=⟨by rw[Gy.size,aD.size];exact dc _,λ j hj T=>(Gy.far j (by omega)).trans (aD.far j (by omega))⟩;have bc:Dz.heap.size=wr.heap.size:=by rw[Gy.size,aD.size]
   have ho:=WQ.o;rw[dw] at ho;obtain⟨L9,aa,bz,a2⟩:=ho.made;have aR:=qh (show pV 144 10 (lW Dz (λ k=>wp.heap.size<=k/\k<Dz.heap.size/\k ∉ L9)) Dz (cX s x.ans.ch.length t) x.ans.ch L9/\L9.Nodup/\∀ k∈L9,wp.heap.size<=k/\k<Dz.heap.size from
    ⟨pV.mono aa (Uo.imp λ k d=>(a2 k d).1) λ a _ cs M hm hs=>hm.keep (λ k d _=>by rw[bc];exact d) (Uo.imp λ k d=>d.1) (Uo.imp λ k d=>(a2 k (hs k d)).1),bz,by rw[bc];exact a2⟩)
   have cC:=qh (ca.o Dz h6.stay);have cI:wp.heap.size<=Dz.heap.size:=by omega
   clear bc;have h6:=h6.here (p':=(λ k=>w.heap.size+2<=k)) λ _ h=>h;have b9:=qh h6;clear n h6 aw y Q WQ ho aa bz a2 Uo aD Gy ca;go_upto_region 13 with (fail);clear bE ac;obtain⟨p4,f4⟩:=b9.o.cell (i:=4) (u:=(cX A3 x.items.length c3)) rfl;obtain⟨i0,cA,cB,ce,bP⟩:=info_parts agv;have cQ:=Xe.o.2.2.2.2.1;have hit:x.items.length<=1048576:=by omega
   go_wp2;clear p4 f4;go_loopw [63,7] (λ i v wz=>∃ k:Nat,i = cU cV k/\k<=x.items.length/\Hid (∃ xs,xB 59 19 (λ w q=>gq w q) Dz.heap.size wz v (x.items.take k) xs)/\Hid (Q4 w Dz (λ k=>w.heap.size+2<=k) wz (Ea x Ij D Z (cX A3 x.items.length c3) Um WN H f I m (cX s x.ans.ch.length t) Un WO))/\Dz.heap.size<=wz.heap.size) (λ i _ _=>x.items.length+1 - (intOf i).toNat)
   case atStart=>exact⟨0,rfl,de _,qh ⟨[],xB.nil _ _⟩,b9,dc _⟩
   case round =>
    obtain⟨k,rfl,d,HO,y,cK⟩:=hrel;obtain⟨wz,rfl⟩:=aG (wr);obtain⟨xs,ho⟩:=HO.o;have E:(x.items.take k).length=k:=by rw[eb];omega
    obtain⟨Ai,ni,bw⟩:=dX ho.1;rw[E] at bw;subst bw;have WQ:=qh ho;clear ho HO;by_cases hlt:k<x.items.length
    case pos =>
     have U:=HB.o _ _ _ _ y.o;have ab:B<=wz.heap.size:=da hB U.size;obtain⟨ae,rc,rfl,bf,a5,o⟩:=aF.at_ (P:=dW) (aF.keep (λ _ _ h=>h.keep U) ⟨Xe.o.2.2.2.2.1,cs,Xe.o.2.2.1,Xe.o.2.2.2.1⟩ U) hlt;have R:=qh (cu.o _ (ec hlt));have jr:=qh (ed hlt);obtain⟨a,ha⟩:=af (x.items[k]);rw[ha] at a5 R jr;have aV:=qh hlt;obtain⟨aL,bX,-⟩:=a5.look;have cl:=yX (w:=wz) aL o;have bS:=Ns (w:=wz) aL bX;obtain⟨W7,RP,C,B7⟩:=box wz 59 rc.toArray;rw[<- RP] at bS;clear RP;have cx:(wL 59 (cY (some ⟨wz.heap.size,0,none⟩))).run lM W7 = .ok (.agg rc.toArray) W7:=yX aL (gZ B7);have KI:=qh (R.o.1 W7 B rc (a5.keep (C.mono ab)) (da ab C.size) R.o.2);have ck:=qh (y.o.later C);have cT:=C.size;have b0:=qh (xB.later xg WQ.o C);have HK:=qh E;clear o bf ha a5 U C B7 hlt bX aL ab E;go_upto_region 17 with (fail);clear cl bS;have bA:=λ (w':World) (cs:List Value) (hn:cs.length=19)=>adB (w:=w') hn;go_wp2_with (first
      | (go_at_call 37;(with_reducible refine KI.o.mono ?_);rintro e9 N ⟨⟨dd,rfl,ba,cg,b4⟩,gK⟩;have cN:=bA N dd ba;have cp:=qh (ck.o.later gK);have cb:=gK.size;have bv:=qh (dj b4 gK);have bB:=qh (show N.ownsRow Dz.heap.size 59 19 (cX Ai k ni) k xs from by have h:=aQ b0.o.1 gK;rw[HK.o] at h;exact h);clear b4)
      | (at_builtin;refine wpList_append_lies _ rfl _ _ 24 rfl Dz.heap.size 59 i0 (.agg #[.int .i64 0,.string ⟨#[]⟩,.slice none 0 0,.slice none 0 0,.slice none 0 0,.bool false,.slice none 0 0,.string ⟨#[]⟩,.int .i64 0,.int .i64 0,.int .i64 0,.int .i64 0,.string ⟨#[]⟩,.slice none 0 0,.bool false,.slice none 0 0,.bool false,.slice none 0 0,.slice none 0 0]) 19 304 underlying24 cA cB ce bP rfl (by decide) _ _ _ rfl (bB.o.alloc _) ⟨N.heap.size,0,none⟩ 1 1 dd rfl (by rw[ba]) ?d1 cg (by decide) ?d3 ?d4 ?d5 _ rfl ?_))
     case d1=>exact gZ (cs:=dd) (ah.new N 59 _)
     case d3=>unfold maxLen;omega
     case d4=>omega
     case d5=>simp;omega
     intro g4 RN w4 z F lu K;have bi:=qh ((cp.o.later (az N _)).grown F (λ g hg=>(bB.o.lt g hg).1));have sF:=qh (show xB 59 19 (λ w q=>gq w q) Dz.heap.size w4 (cX (some ⟨g4,0,none⟩) (k+1) RN) (x.items.take (k+1)) (xs ++ dd) from by
      have E:=HK.o;have hp:=xB.push xg b0.o (bv.o.2.trans ((az N (.cells dd.toArray 59 (0,0))).mono cb)) (bv.o.1.later xg (az N _)) ba (by rw[E];exact z) F (lu.imp id λ e=>by rw[e];simp) K (by omega);rw[E] at hp;rw[jr.o];exact hp)
     have bh:Dz.heap.size<=w4.heap.size:=by have:=F.size;simp at this;omega
     clear z F lu K bA cx
     (try go_wp2_with fail)
     go_roundw
     case rel=>exact⟨k+1,by go_num,aV.o,qh ⟨_,sF.o⟩,bi,bh⟩
     case measure =>
      have:=aV.o;simp[intOf];omega
    case neg =>
     obtain rfl:k=x.items.length:=by omega
     obtain⟨p4,f4⟩:=y.o.cell (i:=4) (u:=(cX A3 x.items.length c3)) rfl;go_upto_region 20 with (fail);have S:Q4 w Dz (λ k=>w.heap.size+2<=k) (wz.setCell ⟨w.heap.size,4,none⟩ (cX Ai x.items.length ni)) (Ea x Ij D Z (cX Ai x.items.length ni) Um WN H f I m (cX s x.ans.ch.length t) Un WO):=y.o.set 4 (v:=cX Ai x.items.length ni) rfl;have a4:aC w.heap.size wz (wz.setCell ⟨w.heap.size,4,none⟩ (cX Ai x.items.length ni)):=(aC.refl _ _).set 4 _;obtain⟨W12,bN⟩:=aG (wz.setCell ⟨w.heap.size,4,none⟩ (cX Ai x.items.length ni));rw[<- bN] at S a4 ⊢;clear bN p4 f4;obtain⟨J,bo⟩:=af ((Ea x Ij D Z (cX Ai x.items.length ni) Um WN H f I m (cX s x.ans.ch.length t) Un WO));rw[bo] at S;have cr:=qh bo;clear bo;have bE:(wL 59 (cY (some ⟨w.heap.size,0,none⟩))).run lM W12 = .ok (.agg J.toArray) W12:=yX S.h19 (gZ S.b1);have ac:(Hr 59 (cY (some ⟨w.heap.size+1,0,none⟩)) (.agg J.toArray)).run lM W12 = .ok () (W12.setCells (w.heap.size+1) 0 J):=D8 S.b2 (by rw[S.h19];decide) (by rw[S.h19];kernel_rfl) S.h1c;have aM:=ah.mid (post:=[]) J [cU cV 0,cW ⟨#[]⟩,cX none 0 0,cX none 0 0,cX none 0 0,c0 false,cX none 0 0,cW ⟨#[]⟩,cU cV 0,cU cV 0,cU cV 0,cU cV 0,cW ⟨#[]⟩,cX none 0 0,c0 false,cX none 0 0,c0 false,cX none 0 0,cX none 0 0] [] S.b2 (by rw[S.h19];rfl);rw[d6q,List.append_nil] at aM;have hS:=aC.many J 0 (aC.refl (w.heap.size+1) W12);obtain⟨W13,bk⟩:=aG (W12.setCells (w.heap.size+1) 0 J);rw[<- bk] at ac hS;have aM:ah W13 (w.heap.size+1) 59 J.toArray:=bk▸aM;clear bk;have H8:=qh S;clear S;go_wp2;refine aoe rfl rfl H8.o.h19 aM ?_;have S:=H8.o;have PH:aK (λ k=>w.heap.size+2<=k) wz W13:=⟨by rw[hS.size,a4.size];exact dc _,λ j hj T=>(hS.far j (by omega)).trans (a4.far j (by omega))⟩;have cS:W13.heap.size=wz.heap.size:=by rw[hS.size,a4.size]
     refine⟨⟨J,rfl,S.h19,S.h1c,?_⟩,S.bel.trans (hS.below (by omega))⟩;rw[<- cr.o];have G:aK (λ k=>w.heap.size+2<=k) Dz W13:=⟨da y.o.stay.1 PH.1,λ j hj T=>(PH.2 j hj (dz T y.o.stay.1)).trans (y.o.stay.2 j hj T)⟩;obtain⟨y1,y2,y3,y4⟩:=cC.o;obtain⟨r1,r2,r3⟩:=aR.o;obtain⟨q1,q2,Ls,q3,q4,q5,q6⟩:=WQ.o;rw[dw] at q1 q3;refine WL (s1:=X.heap.size) (s2:=W5.heap.size) (s3:=W6.heap.size) (s4:=wp.heap.size) (s5:=Dz.heap.size) (xs:=xs) ⟨y1.1.keep (G.imp λ k d=>d.1),y1.2.1.keep (G.imp λ k d=>d.1),y1.2.2.keep (G.imp λ k d=>d.1)⟩ (y2.keep (G.imp λ k d=>by have:=aZ.o.2 k d;omega)) aZ.o.2 (y3.keep (G.imp λ k d=>by omega)) ((y4.keep (G.imp λ k d=>by omega)).up G.1)
      (pV.mono r1 (G.imp λ k d=>by have:=(r3 k d).1;omega) λ a _ cs M hm hs=>hm.keep (λ k d _=>d) (G.imp λ k d=>by omega) (G.imp λ k d=>by have:=(r3 k (hs k d)).1;omega)) r2 r3 ?_ (by omega) HM.o cf.o LU.o
     exact⟨jP q1 (PH.imp λ k d=>by have:=(q5 k (dx _ d)).1;omega),⟨_,_,rfl⟩,Ls,q3,q4,λ k d=>⟨(q5 k d).1,by have:=(q5 k d).2;omega⟩,λ i hi=>by
      have h6:=q6 i (by rw[dw];exact hi);simp only[dw] at h6;exact xg.mv h6 (λ k d _=>⟨d.1,by omega,d.2.2⟩) (PH.imp λ k d=>by omega) (PH.imp λ k d=>by have:=(q5 k (dm _ (bM d))).1;omega)⟩
mutual
theorem Gz:∀ x:ItemD,aaN x
 | .mk _ _ _ _ items _ _ _ _ _=>PG (x:=.mk _ _ _ _ items _ _ _ _ _) (GG items)
theorem GG:∀ l:List ItemD,∀ e∈l,aaN e
 | [],_,h=>by cases h
 | a :: r,e,h=>by
  rcases du.1 h with q | q
  .rw[q];exact Gz a
  .exact GG r e q
end
end Go.Proofs.YtcnagconagpkcaaGreatDoor
