/- Lemmas. -/
import Derived.Test.YtcnagconagpkcaaGreatDoorZ23
import Derived.Deep.Cut
import Derived.Laws.StructEq
open Go.Value renaming int->ek, string->em, slice->en, pointer->eo, bool->ep, oneCell'->eD, slice->eZ
open Go.IntKind renaming i64->el
open Go.Ending renaming returned->eq
open List renaming mem_append_left->er, mem_append_right->et, nodup_append->ev, mem_cons->ez, mem_append->eB, mem_singleton->eC, mem_map->eJ, getElem?_eq_getElem->eK, getElem_mem->eL, take_succ_eq_append_getElem->eN, append_assoc->eO, take_length->eR, getElem?_cons_succ->eT, length_map->eV, mem_cons_of_mem->eW, mem_reverse->eY, getElem?_map->e9, mem_cons_self->fe, length_append->ff, length_set->fg, getElem_of_mem->fh, map_cons->fi, length_pos_iff->fj, take_of_length_le->fm
open And renaming intro->es
open Nat renaming zero_le->ey, lt_of_lt_of_le->eA, le_succ->eF, le_refl->eI, le_trans->eS, le_of_lt->fc, lt_of_le_of_lt->fd
open Decidable renaming byContradiction->eE
open Option.some renaming inj->eM
open Option renaming isSome_none->fa, getD_some->fk, isSome_some->fl
set_option maxHeartbeats 4000000
set_option maxRecDepth 100000
namespace Go.Proofs.YtcnagconagpkcaaGreatDoor
open Tryz
open Tryz renaming prog->lM
section
open Go.RowKit
structure DF (w0:World) (b:Nat) (q:Nat->Prop) (go tb mb pl:Nat) (kv:List (ByteArray × Value)) (cur:World) (f:aI) (vl vs vi:Value) (Ll Ls Li:List Nat):Prop where
 blk:ah cur go 26 #[em f.nm,ek el f.jo,vl,vs,vi]
 la:Dk cur vl f.ag
 ll:Ll=fp vl
 ls:LsO cur vs f.lists Ls
 it:OwN 59 19 (gq cur q) cur vi f.items Li
 nd:(Ll ++ Ls ++ Li).Nodup
 tr:uP cur tb mb pl kv
 ap:∀ k∈Ll ++ Ls ++ Li,b<=k/\¬ q k/\k≠go/\k≠tb/\k≠mb/\k<cur.heap.size
 qs:∀ k,q k->k<cur.heap.size/\k≠go/\k≠tb/\k≠mb
 gt:go≠tb/\go≠mb/\tb≠mb/\b<=go/\b<=tb/\b<=mb
 fr:Below b w0 cur
 nm:f.nm.size<=maxLen
section
variable {w0 cur w':World} {b:Nat} {q:Nat->Prop} {go tb mb pl:Nat} {kv:List (ByteArray × Value)} {f:aI} {vl vs vi:Value} {Ll Ls Li:List Nat}
theorem DF.le (h:DF w0 b q go tb mb pl kv cur f vl vs vi Ll Ls Li):b<=cur.heap.size:=fc (fd h.gt.2.2.2.1 h.blk.lt)
theorem DF.later (h:DF w0 b q go tb mb pl kv cur f vl vs vi Ll Ls Li) (c:DD cur w'):DF w0 b q go tb mb pl kv w' f vl vs vi Ll Ls Li:=by
 have g:=c.size;exact⟨h.blk.below c h.blk.lt,h.la.keep (aK.of c),h.ll,⟨pV.mono h.ls.of (aK.of c) λ a _ cs M e _=>e.keep (aK.of c),h.ls.nd,λ k d=>eA (h.ls.lt k d) g⟩,
  ⟨pV.mono h.it.of (aK.of c) λ a _ cs M e _=>e.keep (λ _ d _=>d) (aK.of c) (aK.of c),h.it.nd,λ k d=>eA (h.it.lt k d) g⟩,h.nd,h.tr.below c,
  λ k d=>by have:=h.ap k d;exact⟨this.1,this.2.1,this.2.2.1,this.2.2.2.1,this.2.2.2.2.1,by omega⟩,λ k d=>by have:=h.qs k d;exact⟨by omega,this.2⟩,h.gt,h.fr.trans (c.mono h.le),h.nm⟩
theorem DF.aoO (h:DF w0 b q go tb mb pl kv cur f vl vs vi Ll Ls Li) {W j:World} {g4 c4:Nat} {nm:ByteArray} (A:nm.size<=maxLen) (C:DD cur W) (I:W.grownBy j vl.ownBlock) (E:vl.ownBlock=some g4\/cur.heap.size<=g4) (J:j.ownsRow 0 9 1 (en (some ⟨g4,0,none⟩) (f.ag.length+1) c4) (f.ag.length+1) (dP f.ag ++ [em nm])) :
  DF w0 b q go tb mb pl kv (j.setCell ⟨go,2,none⟩ (en (some ⟨g4,0,none⟩) (f.ag.length+1) c4)) { f with ag:=f.ag ++ [nm] } (en (some ⟨g4,0,none⟩) (f.ag.length+1) c4) vs vi [g4] Ls Li:=by
 have t:=h.later C;have p:=h.nd;rw[eO,h.ll] at p;have l:∀ k,vl.ownBlock=some k->k∈Ll:=λ k e=>by rw[h.ll];exact dB.2 e
 have n:aC go j (j.setCell ⟨go,2,none⟩ (en (some ⟨g4,0,none⟩) (f.ag.length+1) c4)):=(aC.refl _ _).set 2 _;have d:Off (go :: Ll) W (j.setCell ⟨go,2,none⟩ (en (some ⟨g4,0,none⟩) (f.ag.length+1) c4)):=
  (Off.grown (L:=go :: Ll) I λ k e=>eW _ (l k e)).trans (L':=go :: Ll) ⟨n.os,n.tape,n.output,Nat.le_of_eq n.size.symm,λ k _ c=>n.far k λ e=>c (by rw[e];exact fe ..)⟩ λ k c=>.inl c
 have H:=d.size;have x:g4∈Ll\/cur.heap.size<=g4:=E.imp (l g4) id;have w:g4<j.heap.size:=(J.lt g4 rfl).2;have r:=λ k (c:k∈Ls ++ Li)=>h.ap k (by rw[eO];exact et _ c);have i:∀ k∈Ls ++ Li,k ∉ go :: Ll:=λ k c o=>by
  rcases ez.1 o with e | e
  .exact (r k c).2.2.1 e
  .rw[h.ll] at e;exact (ev.1 p).2.2 k e k c rfl
 have K:aK (λ k=>k∈Ls) W _:=d.stay λ k c=>i k (er _ c);have G:aK (λ k=>k∈Li) W _:=d.stay λ k c=>i k (et _ c);have P:aK q W _:=d.stay λ k c o=>by
  rcases ez.1 o with e | e
  .exact (h.qs k c).2.1 e
  .exact (h.ap k (er _ (er _ e))).2.1 c
 have m:∀ g,g=go\/g=tb\/g=mb->g ∉ Ll:=λ g y c=>by
  have:=h.ap g (er _ (er _ c));rcases y with e | e | e
  .exact this.2.2.1 e
  .exact this.2.2.2.1 e
  .exact this.2.2.2.2.1 e
 have O:=C.size;have u:b<=g4/\¬ q g4/\g4≠go/\g4≠tb/\g4≠mb:=by
  rcases x with e | e
  .have:=h.ap g4 (er _ (er _ e));exact⟨this.1,this.2.1,this.2.2.1,this.2.2.2.1,this.2.2.2.2.1⟩
  .have T:=h.le;have S:=h.blk.lt;have U:=h.tr.blk.lt;have Q:=h.tr.map.lt;exact⟨by omega,λ N=>by have:=(h.qs g4 N).1;omega,by omega,by omega,by omega⟩
 have D:ah j go 26 #[em f.nm,ek el f.jo,vl,vs,vi]:=t.blk.grown I λ e=>m go (.inl rfl) (l go e.symm);refine⟨D.bP 2 _,⟨⟨_,_,by rw[ff];rfl⟩,?_,λ s F=>?_⟩,rfl,⟨pV.mono t.ls.of K λ a _ cs M B z=>B.keep (K.imp z),h.ls.nd,λ k c=>eA (t.ls.lt k c) H⟩,
  ⟨pV.mono t.it.of G λ a _ cs M B z=>B.keep (λ _ c _=>c) P (G.imp z),h.it.nd,λ k c=>eA (t.it.lt k c) H⟩,?_,t.tr.keep d (λ e=>?_) (λ e=>?_),λ k c=>?_,λ k c=>?_,h.gt,?_,h.nm⟩
 .rw[ff,zJ];exact jP J (n.stay λ k c e=>u.2.2.1 (by have:=dB.1 c;injection this with this;exact this.trans e))
 .rcases eB.1 F with e | e
  .exact h.la.2.2 s e
  .rw[eC] at e;rw[e];exact A
 .rw[eO,ev];refine⟨by simp,(ev.1 p).2.1,λ k c R v e=>?_⟩;rw[eC] at c;subst c e;rcases x with e | e
  .exact i k v (eW _ e)
  .have:=(r k v).2.2.2.2.2;omega
 .rcases ez.1 e with e | e
  .exact h.gt.1 e.symm
  .exact m tb (.inr (.inl rfl)) e
 .rcases ez.1 e with e | e
  .exact h.gt.2.1 e.symm
  .exact m mb (.inr (.inr rfl)) e
 .rw[eO] at c;rcases eB.1 c with e | e
  .rw[eC] at e;subst e;exact⟨u.1,u.2.1,u.2.2.1,u.2.2.2.1,u.2.2.2.2,by rw[n.size];exact w⟩
  .have:=r k e;exact⟨this.1,this.2.1,this.2.2.1,this.2.2.2.1,this.2.2.2.2.1,by omega⟩
 .have:=h.qs k c;exact⟨by omega,this.2⟩
 .refine (h.fr.trans (C.mono h.le)).trans (d.below (by have:=h.le;omega) λ k c=>?_);rcases ez.1 c with e | e
  .rw[e];exact h.gt.2.2.2.1
  .exact (h.ap k (er _ (er _ e))).1
theorem DF.lists (h:DF w0 b q go tb mb pl kv cur f vl vs vi Ll Ls Li) {K l:List Nat} {v:List aS} (m:Off K cur w') (n:∀ k∈K,k∈Ls) (u:LsO w' vs v l) (t:∀ k∈l,k∈Ls\/cur.heap.size<=k):DF w0 b q go tb mb pl kv w' { f with lists:=v } vl vs vi Ll l Li:=by
 have F:=m.size;have j:=h.nd;have d:=λ k (c:k∈Ls)=>h.ap k (er _ (et _ c));have r:∀ k∈Ll,k ∉ K:=λ k c i=>(ev.1 (ev.1 j).1).2.2 k c k (n k i) rfl;have s:∀ k∈Li,k ∉ K:=λ k c i=>(ev.1 j).2.2 k (et _ (n k i)) k c rfl;have B:aK (λ k=>k∈Ll) cur w':=m.stay r;have w:aK (λ k=>k∈Li) cur w':=m.stay s;have H:aK q cur w':=m.stay λ k c i=>(d k (n k i)).2.1 c;have p:∀ k,cur.heap.size<=k->b<=k/\¬ q k/\k≠go/\k≠tb/\k≠mb:=λ k e=>by
  have N:=h.le;have J:=h.blk.lt;have O:=h.tr.blk.lt;have I:=h.tr.map.lt;exact⟨by omega,λ y=>by have:=(h.qs k y).1;omega,by omega,by omega,by omega⟩
 refine⟨m.blk h.blk λ e=>(d go (n go e)).2.2.1 rfl,h.la.keep (h.ll▸B),h.ll,u,⟨pV.mono h.it.of w λ a _ cs M C A=>C.keep (λ _ c _=>c) H (w.imp A),h.it.nd,λ k c=>eA (h.it.lt k c) F⟩,?_,
  h.tr.keep m (λ e=>(d tb (n tb e)).2.2.2.1 rfl) (λ e=>(d mb (n mb e)).2.2.2.2.1 rfl),λ k c=>?_,λ k c=>?_,h.gt,h.fr.trans (m.below h.le λ k c=>(d k (n k c)).1),h.nm⟩
 .rw[ev,ev];obtain⟨⟨z,L,E⟩,G,x⟩:=(show (Ll.Nodup/\Ls.Nodup/\∀ a∈Ll,∀ b∈Ls,a≠b)/\Li.Nodup/\∀ a∈Ll ++ Ls,∀ b∈Li,a≠b from by rw[ev,ev] at j;exact j);refine⟨⟨z,u.nd,λ k c D g e=>?_⟩,G,λ k c D g e=>?_⟩
  .subst e;rcases t k g with e | e
   .exact E k c k e rfl
   .have:=(h.ap k (er _ (er _ c))).2.2.2.2.2;omega
  .subst e;rcases eB.1 c with e | e
   .exact x k (er _ e) k g rfl
   .rcases t k e with e | e
    .exact x k (et _ e) k g rfl
    .have:=(h.ap k (et _ g)).2.2.2.2.2;omega
 .rcases eB.1 c with e | e
  .rcases eB.1 e with e | e
   .have:=h.ap k (er _ (er _ e));exact⟨this.1,this.2.1,this.2.2.1,this.2.2.2.1,this.2.2.2.2.1,by omega⟩
   .have o:=u.lt k e;rcases t k e with e | e
    .have:=d k e;exact⟨this.1,this.2.1,this.2.2.1,this.2.2.2.1,this.2.2.2.2.1,o⟩
    .have:=p k e;exact⟨this.1,this.2.1,this.2.2.1,this.2.2.2.1,this.2.2.2.2,o⟩
  .have:=h.ap k (et _ e);exact⟨this.1,this.2.1,this.2.2.1,this.2.2.2.1,this.2.2.2.2.1,by omega⟩
 .have:=h.qs k c;exact⟨by omega,this.2⟩
structure FoZ (b:Nat) (w:World) (f:aI) (x:jS):Prop where
 ex:∃ (q:Nat->Prop) (Ls Li:List Nat),Dk w (en x.AL f.ag.length x.cl) f.ag/\(∀ k∈fp (en x.AL f.ag.length x.cl),b<=k)/\pV 92 2 (rP w) w (en x.AS f.lists.length x.cs) f.lists Ls/\(∀ k∈Ls,b<=k)/\pV 59 19 (gq w q) w (en x.AI f.items.length x.ci) f.items Li/\(∀ k∈Li,b<=k)/\∀ k,q k->b<=k
 nm:f.nm.size<=maxLen
theorem FoZ.keep {b:Nat} {w w':World} {f:aI} {x:jS} (h:FoZ b w f x) (c:aK (λ k=>b<=k) w w'):FoZ b w' f x:=by
 obtain⟨⟨q,Ls,Li,o,m,p,i,n,e,l⟩,r⟩:=h;exact⟨⟨q,Ls,Li,o.keep (c.imp m),m,pV.mono p (c.imp i) λ a _ cs M j g=>j.keep (c.imp λ k d=>i k (g k d)),i,pV.mono n (c.imp e) λ a _ cs M j g=>j.keep (λ _ d _=>d) (c.imp l) (c.imp λ k d=>e k (g k d)),e,l⟩,r⟩
theorem FoZ.form {b:Nat} {w:World} {f:aI} {x:jS} (h:FoZ b w f x):jq w w.heap.size f x:=by
 obtain⟨⟨q,Ls,Li,e,n,g,m,c,l,k⟩,i⟩:=h;obtain⟨d,j⟩:=g.at_ (Q:=jI) λ _ _ _ _ a=>a.at_;obtain⟨s1,s2⟩:=c.at_ (Q:=dW) λ _ _ _ _ a=>a.at_;exact⟨i,e.at_,d,j,s1,s2⟩
theorem DF.items (h:DF w0 b q go tb mb pl kv cur f vl vs vi Ll Ls Li) {g:List Nat} {p:List ItemD} (j:Off Li cur w') (v:OwN 59 19 (gq w' q) w' vi p g) (H:∀ k∈g,k∈Li\/cur.heap.size<=k) (B:∀ k,q k->b<=k) :
  ∃ x:jS,vl = en x.AL f.ag.length x.cl/\vs = en x.AS f.lists.length x.cs/\vi = en x.AI p.length x.ci/\ah w' go 26 #[em f.nm,ek el f.jo,vl,vs,vi]/\FoZ b w' { f with items:=p } x/\Below b w0 w':=by
 have t:=h.nd;have d:=λ k (c:k∈Li)=>h.ap k (et _ c);have z:∀ k∈Ll ++ Ls,k ∉ Li:=λ k c s=>(ev.1 t).2.2 k c k s rfl;have F:aK (λ k=>k∈Ll) cur w':=j.stay λ k c=>z k (er _ c);have y:aK (λ k=>k∈Ls) cur w':=j.stay λ k c=>z k (et _ c);have w:=h.la.keep (h.ll▸F);have u:=pV.mono (P':=rP w') h.ls.of y λ a _ cs M G E=>G.keep (y.imp E);have l:=h.le;have r:=h.ll;have i:=h.ap;have n:=h.blk;have o:=h.fr;have m:=h.nm;clear h;obtain⟨⟨J,C,rfl⟩,-⟩:=id w;obtain⟨A,cs,rfl⟩:=u.sl;obtain⟨D,I,rfl⟩:=v.of.sl;exact⟨⟨J,C,A,cs,D,I,none,0⟩,rfl,rfl,rfl,j.blk n λ e=>(d go e).2.2.1 rfl,⟨⟨q,Ls,g,w,λ k c=>(i k (er _ (er _ (by rw[r];exact c)))).1,u,λ k c=>(i k (er _ (et _ c))).1,v.of,λ k c=>by
  rcases H k c with e | e
  .exact (d k e).1
  .omega,B⟩,m⟩,o.trans (j.below l λ k c=>(d k c).1)⟩
end
theorem PK (x:ByteArray):∀ (l:List ByteArray) (i:Nat),Lib.idxFromS l x i=if l.findIdx (λ s=>decide (s=x))<l.length then ((i+l.findIdx (λ s=>decide (s=x)):Nat):Int) else -1
 | [],_=>rfl
 | z :: r,i=>by
  unfold Lib.idxFromS;rw[List.findIdx_cons];by_cases hz:z=x
  .rw[if_pos hz,decide_eq_true hz];simp
  .rw[if_neg hz,decide_eq_false hz,PK x r (i+1)];simp only[cond_false,List.length_cons];by_cases h:r.findIdx (λ s=>decide (s=x))<r.length
   .rw[if_pos h,if_pos (by omega)];congr 1;omega
   .rw[if_neg h,if_neg (by omega)]
theorem GR (A:Option Addr) (c B:Nat) (xs:List ByteArray) (s:ByteArray) (w:World) (h:0<xs.length) (g:xs.length<=maxLen) (b:dA w B A xs) :
  Hf 7 #[en A xs.length c,em s] w (ek el (if xA xs s<xs.length then ((xA xs s:Nat):Int) else -1)):=by
 unfold maxLen at g;obtain⟨b1,d,rfl,-,f⟩:=b.plain h;refine (Tryz.slices_Index_string b1 d xs.length c xs s w (eI _) (by omega) (dA.cells f)).mono λ _ _ ⟨a,i⟩=>⟨?_,i⟩;rw[a,eR];unfold Lib.idxOfS xA;rw[PK,Nat.zero_add]
section
variable {w0 cur w':World} {b:Nat} {q:Nat->Prop} {go tb mb pl:Nat} {kv:List (ByteArray × Value)} {f:aI} {vl vs vi:Value} {Ll Ls Li:List Nat}
theorem DF.placed (h:DF w0 b q go tb mb pl kv cur f vl vs vi Ll Ls Li) {p:Nat} (d:aC tb cur w') (s:ah w' tb 82 #[.map (some mb),ek el p]):DF w0 b q go tb mb p kv w' f vl vs vi Ll Ls Li:=by
 have g:∀ P:Nat->Prop,(∀ k,P k->k≠tb)->aK P cur w':=λ P o=>d.stay o;have t:=g q λ k c=>(h.qs k c).2.2.1;have r:=g (λ k=>k∈Ll) λ k c=>(h.ap k (er _ (er _ c))).2.2.2.1;have n:=g (λ k=>k∈Ls) λ k c=>(h.ap k (er _ (et _ c))).2.2.2.1;have m:=g (λ k=>k∈Li) λ k c=>(h.ap k (et _ c)).2.2.2.1;have i:=d.size;exact⟨d.blk h.blk h.gt.1,h.la.keep (h.ll▸r),h.ll,⟨pV.mono h.ls.of n λ a _ cs M l j=>l.keep (n.imp j),h.ls.nd,λ k c=>by rw[i];exact h.ls.lt k c⟩,
  ⟨pV.mono h.it.of m λ a _ cs M l j=>l.keep (λ _ c _=>c) t (m.imp j),h.it.nd,λ k c=>by rw[i];exact h.it.lt k c⟩,h.nd,⟨s,h.tr.map.same (d.far mb (λ e=>h.gt.2.2.1 e.symm)),h.tr.str⟩,
  λ k c=>by rw[i];exact h.ap k c,λ k c=>by rw[i];exact h.qs k c,h.gt,h.fr.trans (d.below h.gt.2.2.2.2.1),h.nm⟩
theorem DF.of {g b:World} (hF:aeK b (λ k=>g.heap.size<=k/\k<b.heap.size/\k ∉ Ll ++ Ls ++ Li) f vl vs vi Ll Ls Li) (o:∀ k∈Ll ++ Ls ++ Li,g.heap.size<=k/\k<b.heap.size) (r:DD w0 g) (i:DD g b) (m:uP g tb mb pl kv) (n:tb≠mb/\w0.heap.size<=tb/\w0.heap.size<=mb) :
  DF w0 w0.heap.size (λ k=>g.heap.size<=k/\k<b.heap.size/\k ∉ Ll ++ Ls ++ Li) b.heap.size tb mb pl kv (b.alloc (.cells #[em f.nm,ek el f.jo,vl,vs,vi] 26 (0,0))) f vl vs vi Ll Ls Li:=by
 have d:=az b (.cells #[em f.nm,ek el f.jo,vl,vs,vi] 26 (0,0));have u:=r.size;have t:=i.size;have j:=d.size;have w:=m.blk.lt;have x:=m.map.lt;have s:=(ev.1 hF.nd).1;have v:=(ev.1 s).2.1;have c:=λ P=>aK.of (p:=P) d;refine⟨ah.new b _ _,hF.la.keep (c _),hF.ll,⟨pV.mono hF.ls (c _) λ a _ cs M l _=>l.keep (c _),v,λ k e=>eA (o k (er _ (et _ e))).2 j⟩,
  ⟨pV.mono hF.it (c _) λ a _ cs M l _=>l.keep (λ _ e _=>e) (c _) (c _),(ev.1 hF.nd).2.1,λ k e=>eA (o k (et _ e)).2 j⟩,hF.nd,(m.below i).below d,λ k e=>?_,λ k e=>?_,?_,?_,hF.nm⟩
 .have h:=o k e;exact⟨by omega,λ q=>q.2.2 e,by omega,by omega,by omega,by omega⟩
 .exact⟨by omega,by omega,by omega,by omega⟩
 .exact⟨by omega,by omega,n.1,by omega,n.2.1,n.2.2⟩
 .exact r.trans ((i.mono u).trans (d.mono (by omega)))
end
def PL (w0:World) (b:Nat) (q:Nat->Prop) (go tb mb pl:Nat) (kv:List (ByteArray × Value)) (cur:World) (f:aI) (vl vs vi:Value) (Ll Li:List Nat) (lst:List aS):Prop:=∃ Ls,DF w0 b q go tb mb pl kv cur { f with lists:=lst } vl vs vi Ll Ls Li
section
variable {w0 cur w':World} {b:Nat} {q:Nat->Prop} {go tb mb pl:Nat} {kv:List (ByteArray × Value)} {f:aI} {vl vs vi:Value} {Ll Li:List Nat} {lst:List aS}
theorem PL.later (h:PL w0 b q go tb mb pl kv cur f vl vs vi Ll Li lst) (a:DD cur w'):PL w0 b q go tb mb pl kv w' f vl vs vi Ll Li lst:=h.imp λ _ h=>h.later a
theorem PL.fr (h:PL w0 b q go tb mb pl kv cur f vl vs vi Ll Li lst):Below b w0 cur:=h.choose_spec.fr
theorem PL.list (h:PL w0 b q go tb mb pl kv cur f vl vs vi Ll Li lst) {k:Nat} {x:aS} (a:lst[k]?=some x) :
  ∃ bs cs A c,vs = en (some ⟨bs,0,none⟩) lst.length cs/\cur.cell? ⟨go,3,none⟩=some vs/\cur.cell? ⟨bs,k*2,none⟩=some (em x.nm)/\cur.cell? ⟨bs,k*2+1,none⟩=some (en A x.os.length c):=by
 obtain⟨Ls,h⟩:=h;obtain⟨bs,cs,A,c,e,-,g,d⟩:=aaX h.ls a;exact⟨bs,cs,A,c,e,h.blk.cell 3,g,d⟩
theorem PL.opt {bs cs:Nat} (h:PL w0 b q go tb mb pl kv cur f vl (en (some ⟨bs,0,none⟩) lst.length cs) vi Ll Li lst) {k:Nat} {x:aS} (p:lst[k]?=some x) {j:Nat} {o:kN} (t:x.os[j]?=some o) :
  ∃ bo i,cur.cell? ⟨bs,k*2+1,none⟩=some (en (some ⟨bo,0,none⟩) x.os.length i)/\cur.cell? ⟨bo,j*4,none⟩=some (ek el o.code) /\
   ∀ wh:ByteArray,wh.size<=maxLen->(o.ph≠[]->pl<=o.ph.length)->o.ph.length<=1000000->∀ w',DD cur w'->Calls lM 27 #[eo (some ⟨tb,0,none⟩),eo (some ⟨bo,j*4+1,none⟩),em wh] w' λ e m=>e = eq (.tuple #[]) /\
    PL w0 b q go tb mb pl kv m f vl (en (some ⟨bs,0,none⟩) lst.length cs) vi Ll Li (lst.set k { x with os:=x.os.set j { o with ph:=oI pl (zL kv wh) o.ph } }):=by
 obtain⟨Ls,h⟩:=h;obtain⟨bo,i,v,r,E,U,Q,R,O,N,V,P⟩:=PI h.ls p t;refine⟨bo,i,r,E,λ wh K I M w' s=>?_⟩;have g:=h.later s;obtain⟨B,F,W,G,T,L,z,H,d,S,c,C⟩:=PI g.ls p t;have e:=Below.cell_of s r;rw[G] at e;injection e with e;injection e with e _ _;injection e with e;injection e with e;subst e;have a:=λ k (l:k∈Ls)=>g.ap k (er _ (et _ l));refine (put_any (wh:=wh) g.tr L z H (a _ d).2.2.2.2.2 (λ e=>(c _ (dB.2 e)).2.1 rfl) ⟨λ e=>(a _ d).2.2.2.1 e.symm,λ e=>(a _ d).2.2.2.2.1 e.symm,λ e=>(a tb (c tb (dB.2 e)).1).2.2.2.1 rfl,λ e=>(a mb (c mb (dB.2 e)).1).2.2.2.2.1 rfl⟩ K I M).mono λ e w y=>?_;obtain⟨A,v2,n⟩:=y;obtain⟨L',D,J⟩:=C w _ _ n;refine⟨A,L',?_⟩;have u:(lst.set k { x with os:=x.os.set j { o with ph:=oI pl (zL kv wh) o.ph } }).length=lst.length:=fg ..;exact DF.lists g n.RS (λ k l=>by
  rcases ez.1 l with e | e
  .rw[e];exact d
  .exact (c k e).1) D J
end
end
section
theorem aaY {s:ByteArray} (h:aP s.data.toList=true):s.size<=16:=by
 unfold aP at h;simp only[Bool.and_eq_true,decide_eq_true_iff] at h;have:=h.1.1.1.2;simpa using this
theorem Dl {d:Nat}:∀ (l b:List aS),mD d b l=0->∀ x∈l,x.os.length<=40
 | [],_,_,_,hx=>by cases hx
 | a :: r,b,h,x,hx=>by
  rw[mD] at h;split at h
  .exact absurd h (by decide)
  split at h
  .exact absurd h (by decide)
  split at h
  .exact absurd h (by decide)
  rename_i q;split at h
  .rename_i c;exact absurd h c
  rcases ez.1 hx with e | e
  .subst e;unfold aW at q;simp at q;omega
  .exact Dl r _ h x e
theorem WX {f:aI} (h:aX f=0):adG f:=by
 have k:=O8 h;have c:=h;unfold aX nH at c;split at c
 .rename_i q;exact absurd c q
 rename_i b;split at c
 .rename_i q;exact absurd c q
 rename_i g;split at c
 .rename_i q;exact absurd c q
 rename_i e;have b:nG f=0:=eE b;have g:jH f=0:=eE g;have e:fZ (ai f) f.lists=0:=eE e;refine⟨λ l j=>⟨eS (aaY (k.ln l j).1) (by decide),λ o s=>?_⟩,?_,?_,λ d p=>⟨?_,eS (aaY (k.sh.nm d p)) (by decide)⟩⟩
 .have:=(k.ln l j).2.2 o s;omega
 .unfold nG at b;split at b
  .exact absurd b (by decide)
  split at b
  .exact absurd b (by decide)
  split at b
  .exact absurd b (by decide)
  rename_i q;unfold aW at q;simp at q;omega
 .unfold jH at g;split at g
  .exact absurd g (by decide)
  .exact⟨by omega,λ l j=>eS (Dl _ _ g l j) (by decide)⟩
 .have r:=zG (N:=ai f) (L:=f.lists) ((ai f).length+1) 0 (by omega) (by
   unfold fZ at e;split at e
   .rename_i q;exact absurd e q
   .exact e)
  obtain⟨i,n,rfl⟩:=fh p;have a:=r i (ey _) n;unfold mF at a;rw[iD n] at a;dsimp only at a;split at a
  .exact absurd a (by decide)
  split at a
  .exact absurd a (by decide)
  split at a
  .exact absurd a (by decide)
  split at a
  .exact absurd a (by decide)
  rename_i m;split at a
  .exact absurd a (by decide)
  split at a
  .unfold JF at a;split at a
   .exact absurd a (by decide)
   split at a
   .exact absurd a (by decide)
   split at a
   .exact absurd a (by decide)
   split at a
   .exact absurd a (by decide)
   split at a
   .exact absurd a (by decide)
   split at a
   .rename_i q;exact absurd a q
   split at a
   .exact absurd a (by decide)
   .omega
  .rename_i t;rw[TU (by simpa using m) t];exact ey _
structure akg (pl:Nat) (x:ItemD):Prop where
 hn:x.nm.size<=1000
 hp:(x.ph≠[]->pl<=x.ph.length)/\x.ph.length<=1000000
 hc:x.ans.ch.length<=1000/\∀ r∈x.ans.ch,(r.ph≠[]->pl<=r.ph.length)/\r.ph.length<=1000000
mutual
theorem ItemD.adV {pl:Nat}:∀ (i:ItemD) (a:List au) (b g f:Int) (c:List ByteArray),Jf (i.add a b g f c)->(∀ d∈i.add a b g f c,akg pl d.it)->i.cu<=1048576->Sj pl i
 | .mk k nm iff ph items sh cnt over ans cmp,a,b,g,f,c,hc,ha,hu=>by
  rw[ItemD.cu] at hu;rw[ItemD.add] at hc ha;obtain⟨t,e⟩:=uo items (a ++ [⟨.mk k nm iff ph items sh cnt over ans cmp,b,g,f,c⟩]) a.length 0 (f+1) (if k=3 then c ++ [nm] else c);have j:(⟨.mk k nm iff ph items sh cnt over ans cmp,b,g,f,c⟩:au)∈iZ items (a ++ [⟨.mk k nm iff ph items sh cnt over ans cmp,b,g,f,c⟩]) a.length 0 (f+1) (if k=3 then c ++ [nm] else c):=by rw[e];simp
  have m:=hc.2 _ j;have h:=ha _ j;have l:=D9 items;exact .mk h.hn h.hp h.hc (by show items.length<=1048576;omega) (GU items _ _ _ _ _ (by have:f<=12:=m;omega) hc ha (by omega))
theorem GU {pl:Nat}:∀ (l:List ItemD) (b:List au) (a f c:Int) (g:List ByteArray),c<=13->Jf (iZ l b a f c g)->(∀ d∈iZ l b a f c g,akg pl d.it)->Fp l<=1048576->∀ y∈l,Sj pl y
 | [],_,_,_,_,_,_,_,_,_,_,h=>by cases h
 | it :: r,b,a,f,c,g,hv,hc,ha,hu,y,hy=>by
  rw[Fp] at hu;rw[iZ] at hc ha;split at hc
  .have:=hc.1;omega
  rename_i i;rw[if_neg i] at ha;obtain⟨t,e⟩:=uo r (it.add b a f c g) a (f+1) c g;rcases ez.1 hy with q | q
  .rw[q];exact ItemD.adV it b a f c g (by rw[e] at hc;exact hc.left) (λ d j=>ha d (by rw[e];exact er _ j)) (by omega)
  .exact GU r _ _ _ _ _ hv hc ha (by omega) y q
end
theorem allI {f:aI} (h:aX f=0) (m:Fp f.items<=1048576) {pl:Nat} (s:pl<=f.ag.length):∀ y∈f.items,Sj pl y:=by
 have t:=O8 h;have i:=WX h;have a:=h;unfold aX nH at a;split at a
 .rename_i q;exact absurd a q
 split at a
 .rename_i q;exact absurd a q
 split at a
 .rename_i q;exact absurd a q
 rename_i g;have j:fZ (ai f) f.lists=0:=eE g;have b:xJ (ai f)=0:=by
  unfold fZ at j;split at j
  .rename_i q;exact absurd j q
  .rename_i q;exact eE q
 have hcut:Jf (ai f):=by
  unfold xJ at b;split at b
  .exact absurd b (by decide)
  split at b
  .exact absurd b (by decide)
  rename_i v g;refine⟨by omega,λ d c=>?_⟩;simp only[List.any_eq_true,not_exists,not_and,Bool.or_eq_true,decide_eq_true_eq,not_or] at g;have:=(g d c).1;omega
 have n:=i.la;refine GU f.items [] (-1) 0 1 [] (by omega) hcut (λ d c=>?_) m;have k:=t.np d c;have l:∀ p:List ByteArray,p = []\/p.length=f.ag.length->(p≠[]->pl<=p.length)/\p.length<=1000000:=λ p u=>by
  rcases u with e | e
  .subst e;exact⟨λ q=>absurd rfl q,ey _⟩
  .exact⟨λ _=>by omega,by omega⟩
 exact⟨(i.ch d c).2,l _ k.1,(i.ch d c).1,λ r o=>l _ (k.2.2 r o)⟩
theorem Jq {N:List au} (h:nV N) (pl:Nat) (t:Ic):nV (N.map (Pg pl t)):=by
 intro d g;obtain⟨e,b,rfl⟩:=eJ.1 g;obtain⟨j,c,m,f,k⟩:=h e b;unfold Pg;dsimp only;rw[Us];refine⟨j,c,m,f,λ r l=>?_⟩;obtain⟨i,a,rfl⟩:=fh (show r∈Dy pl t e.it.nm 0 e.it.ans.ch from l);rw[zM] at a;have:=GL pl t e.it.nm e.it.ans.ch 0 i a;rw[eK (by rw[zM];exact a)] at this;rw[eM this];exact (k _ (eL a):(e.it.ans.ch[i]).must.parts<=1000000)
open Go.RowKit
attribute [local go_sem ↓] Go.wp_at_zero Go.wp_at_succ ld_form st_form
def aoP (f:aI) (nm:ByteArray) (l:List jO) (e:Ending) (w':World):Prop:=(∃ k,k≠0/\e = eq (.tuple #[.agg #[em ⟨#[]⟩,ek el 0,en none 0 0,en none 0 0,en none 0 0],ek el k])) \/
 (aX f=0/\(l.map (·.1)).Nodup/\(∀ e∈l,(findF f.lists (ai f) e.1).2=true/\(findF f.lists (ai f) e.1).1≠[])/\(∀ s∈bJ f.lists (ai f),(findF f.lists (ai f) s).1≠[]->∃ e∈l,e.1=s)/\aX (iY f nm (oJ l))=0 /\
  ∃ x:jS,e = eq (.tuple #[.agg #[em f.nm,ek el f.jo,en x.AL (iY f nm (oJ l)).ag.length x.cl,en x.AS f.lists.length x.cs,en x.AI f.items.length x.ci],ek el 0])/\jq w' w'.heap.size (iY f nm (oJ l)) x)
theorem five {v0 v1 v2 v3 b:Value} {cs:Array Value} (a:cs.size=5):((((cs.setIfInBounds 0 v0).setIfInBounds 1 v1).setIfInBounds 2 v2).setIfInBounds 3 v3).setIfInBounds 4 b = #[v0,v1,v2,v3,b]:=by
 apply Array.ext_getElem?;intro i
 match i with
 | 0 | 1 | 2 | 3 | 4=>simp[Array.getElem?_setIfInBounds,a]
 | i+5=>simp[Array.getElem?_eq_none,a]
theorem stF {w:World} {g:Nat} {cs:Array Value} (v0 v1 v2 v3 a:Value) (b:ah w g 26 cs) (c:cs.size=5) (d:∀ v∈[v0,v1,v2,v3,a],v.oneCell'=true) :
  (Hr 26 (eo (some ⟨g,0,none⟩)) (.agg #[v0,v1,v2,v3,a])).run lM w = .ok () (w.setCells g 0 [v0,v1,v2,v3,a])/\ah (w.setCells g 0 [v0,v1,v2,v3,a]) g 26 #[v0,v1,v2,v3,a]/\aC g w (w.setCells g 0 [v0,v1,v2,v3,a]):=by
 refine⟨D8 (vs:=[v0,v1,v2,v3,a]) b (by rw[c];exact eI _) (by kernel_rfl) d,?_,aC.many _ 0 (aC.refl _ _)⟩;have B2:=((((b.bP 0 v0).bP 1 v1).bP 2 v2).bP 3 v3).bP 4 a;rw[five c] at B2;exact B2
theorem GX {c:Func} {s t:Tmp} {tmps:Array Value} {w1:World} {g:Nat} {v v0 v1 v2 v3 b:Value} {Q:Ending->World->Prop} (m:c.results = #[.cell s 26,.tmp t]) (l:tmps[s]?.getD undef = eo (some ⟨g,0,none⟩)) (f:tmps[t]?.getD undef=v)
  (a:ah w1 g 26 #[v0,v1,v2,v3,b]) (h:Q (eq (.tuple #[.agg #[v0,v1,v2,v3,b],v])) w1):bodyPost lM c Q Exit.ret { tmps:=tmps,defers:=[] } w1:=by
 have e:=a.cell 0;have j:=a.cell 1;have i:=a.cell 2;have k:=a.cell 3;have d:=a.cell 4;exact bodyPost_ret (v:=.tuple #[.agg #[v0,v1,v2,v3,b],v]) (by simp[results,m,go_sem,l,f,e,j,i,k,d]) rfl h
def zT (l:List jO):List (ByteArray × Value):=(l.map (λ e=>(e.1,Value.string e.2))).reverse
theorem PM (l:List jO) (e:jO):zT (l ++ [e])=(e.1,em e.2) :: zT l:=by simp[zT]
theorem Jr {s:ByteArray} {v:Value}:∀ {kv:List (ByteArray × Value)},(kv.map (·.1)).Nodup->(s,v)∈kv->di kv s=some v
 | [],_,h=>by cases h
 | (k,u) :: r,hn,h=>by
  rw[di];rw[fi,List.nodup_cons] at hn;rcases ez.1 h with e | e
  .injection e with e1 e2;rw[if_pos e1.symm,e2]
  .rw[if_neg (λ q=>hn.1 (by rw[show (k,u).1=s from q];exact eJ.2 ⟨_,e,rfl⟩)),Jr hn.2 e]
theorem GY {s:ByteArray}:∀ {kv:List (ByteArray × Value)},di kv s=none ↔ s ∉ kv.map (·.1)
 | []=>by simp[di]
 | (k,u) :: r=>by
  rw[di,fi,ez];by_cases e:k=s
  .simp[e]
  .rw[if_neg e,GY];exact⟨λ h q=>q.elim (λ q=>e q.symm) h,λ h q=>h (.inr q)⟩
theorem PN (l:List jO):(zT l).map (·.1)=(l.map (·.1)).reverse:=by simp[zT,List.map_map,Function.comp_def]
theorem GZ {l:List jO} {s:ByteArray}:di (zT l) s=none ↔ s ∉ l.map (·.1):=by rw[GY,PN,eY]
theorem ag1 {l:List jO} (h:(l.map (·.1)).Nodup):zL (zT l)=oJ l:=by
 funext s
 unfold zL oJ;cases hq:l.find? (λ e=>decide (e.1=s)) with
 | none =>
  rw[GZ.2 (λ c=>by
   obtain⟨e,a,q⟩:=eJ.1 c;have:=List.find?_eq_none.1 hq e a;simp[q] at this)]
 | some e =>
  have d:=List.mem_of_find?_eq_some hq;have b:e.1=s:=by simpa using List.find?_some hq
  have f:di (zT l) s=some (em e.2):=Jr (by rw[PN];exact (List.reverse_perm _).nodup_iff.2 h) (eY.2 (eJ.2 ⟨e,d,by rw[b]⟩));rw[f]
theorem adW {l:List jO} (h:∀ e∈l,e.2.size<=maxLen):∀ s u,di (zT l) s=some u->∃ t,u = em t/\t.size<=maxLen:=by
 have H:∀ {kv:List (ByteArray × Value)} {s:ByteArray} {u:Value},di kv s=some u->∃ k,(k,u)∈kv:=by
  intro kv
  induction kv with
  | nil=>intro s u h;cases h
  | cons a r ih =>
   intro s u h;rw[show a=(a.1,a.2) from rfl,di] at h;split at h
   .injection h with h;exact⟨a.1,by rw[<- h];exact fe ..⟩
   .obtain⟨k,b⟩:=ih h;exact⟨k,eW _ b⟩
 intro s u d;obtain⟨k,b⟩:=H d;obtain⟨e,c,q⟩:=eJ.1 (eY.1 b);injection q with q1 q2;exact⟨e.2,q2.symm,h e c⟩
theorem Ut {l:List jO} {k:Nat} (h:k<l.length):(nY l)[k*2]?=some (em l[k].1)/\(nY l)[k*2+1]?=some (em l[k].2):=by
 induction l generalizing k with
 | nil=>cases h
 | cons a r ih =>
  have e:nY (a :: r) = em a.1 :: em a.2 :: nY r:=rfl;rw[e];cases k with
  | zero=>exact⟨rfl,rfl⟩
  | succ k =>
   have b:k<r.length:=by simpa using h
   have:=ih b;rw[show (k+1)*2=k*2+1+1 by omega,eT,eT,eT,eT];exact this
theorem G5 {w:World} {B:Nat} {A:Option Addr} {l:List jO} (h:Reads w B 2 A l.length (nY l)) {k:Nat} (a:k<l.length):∃ ad,A=some ad/\w.cell? (ad.add (k*2))=some (em l[k].1)/\w.cell? ⟨(ad.add (k*2)).block,(ad.add (k*2)).off+1,none⟩=some (em l[k].2):=by
 obtain⟨ad,c,-,b⟩:=h.2 (fd (ey _) a);exact⟨ad,c,b _ _ (Ut a).1,by have h:=b _ _ (Ut a).2;rwa [<- Addr.add_add] at h⟩
theorem aoQ (w:World) (c d:TypeId) (a b:Array Value):∃ W,W=(w.alloc (.cells a c (0,0))).alloc (.cells b d (0,0))/\DD w W/\ah W w.heap.size c a/\ah W (w.heap.size+1) d b/\W.heap.size=w.heap.size+2:=
 ⟨_,rfl,((Below.refl _ w).alloc (eI _) _).alloc (by simp) _,(ah.new w c a).alloc _,by have:=ah.new (w.alloc (.cells a c (0,0))) d b;rwa [World.size_alloc] at this,by simp⟩
theorem G6 {w:World} {f:aI} {x:jS} {nm:ByteArray} {l:List jO} {AE:Option Addr} {cE:Nat} (hf:jq w w.heap.size f x) (bA:nV (ai f)) (Ul:Fp f.items<=1048574) (an:Tab w) (bc:Mx w)
  (hE:Reads w w.heap.size 2 AE l.length (nY l)) (av:∀ e∈l,e.1.size<=1048576/\e.2.size<=1048576) (eg:l.length<=1048576) (ea:nm.size<=1048576) :
  Calls lM 6 #[.agg (BK f x),em nm,en AE l.length cE] w λ e w'=>aoP f nm l e w'/\DD w w':=by
 obtain⟨W,hW,ab,BA,BB,cp⟩:=aoQ w 26 26 (BK f x) #[em ⟨#[]⟩,ek el 0,en none 0 0,en none 0 0,en none 0 0];have X:(wL 26 (eo (some ⟨w.heap.size,0,none⟩))).run lM W = .ok (.agg (BK f x)) W:=lQ (cs:=[em f.nm,ek el f.jo,en x.AL f.ag.length x.cl,en x.AS f.lists.length x.cs,en x.AI f.items.length x.ci]) rfl (gZ BA);have KA:=qh (Je ((hf.keep ab).up ab.size) bA (aB an ab) (bc.below ab));have dp:=hf.la.2.2.1;have jU:=qh (es an bc);have WI:=qh (WX (f:=f));have fJ:=qh (es ab (es BA BB));have al:=qh (es hf (es bA Ul));have HE:=qh (es hE av);obtain⟨i0,dy,dT,cR,cI⟩:=info_parts qB;have d2:=@run_makeMap lM;clear hf bA an bc Ul BA BB ab hE av;go_enter func6,ntmps6;go_upto_region 1 with (fail);rw[<- hW];clear hW;go_upto_region 2 with (go_at_call 22;(with_reducible refine KA.o.mono ?_);rintro e1 m ⟨hr,pX⟩;have Dn:=qh pX;clear pX;rcases hr with ⟨hc,rfl⟩ | ⟨hc,B0,gb,m1,m2,m3,A,c,rfl,bg⟩)
 .have N:=qh hc;clear hc;obtain⟨n,hn⟩:=af (aX f);rw[hn] at N ⊢;have h0:(n != 0)=true:=bne_iff_ne.2 N.o;have du:=fJ.o.1.trans (Dn.o.mono fJ.o.1.size);obtain⟨s1,s2,s3⟩:=stF (em ⟨#[]⟩) (ek el 0) (en none 0 0) (en none 0 0) (en none 0 0) (fJ.o.2.2.below Dn.o fJ.o.2.2.lt) rfl (by simp[eD]);have F:=qh (es s2 s3);clear hn s2 s3;go_wp2;exact GX rfl rfl rfl F.o.1 ⟨.inl ⟨_,N.o,rfl⟩,du.trans (F.o.2.below (eF _))⟩
 have N:=qh hc;have aZ:=fJ.o.1.trans (Dn.o.mono fJ.o.1.size);have HK:=qh bg;have BR:=fJ.o.2.2.below Dn.o fJ.o.2.2.lt;have KN:=qh (jE nm m (by unfold maxLen;omega));obtain⟨o,ho⟩:=af (aP nm.data.toList);rw[ho] at KN;have D:=aZ.size;have am:=BR.lt;clear hc bg ho X;cases o with
 | false =>
  obtain⟨s1,s2,s3⟩:=stF (em ⟨#[]⟩) (ek el 0) (en none 0 0) (en none 0 0) (en none 0 0) BR rfl (by simp[eD]);have F:=qh (es s2 s3);clear s2 s3 BR;go_wp2_with (go_at_call 23;(with_reducible refine KN.o.mono ?_);rintro e2 w2 ⟨rfl,rfl⟩);exact GX rfl rfl rfl F.o.1 ⟨.inl ⟨_,by decide,rfl⟩,aZ.trans (F.o.2.below (eF _))⟩
 | true =>
  have jT:=qh BR;clear BR;go_upto_region 9 with (go_at_call 23;(with_reducible refine KN.o.mono ?_);rintro e2 w2 ⟨rfl,rfl⟩);obtain⟨W5,wV⟩:=aG ((m.alloc (.map #[] 0)).alloc (.cells #[.map (some m.heap.size),ek el 0] 82 (0,0)));have c7:DD m W5:=wV▸((Below.refl _ m).alloc (eI _) _).alloc (by simp) _;have T5:uP W5 (m.heap.size+1) m.heap.size 0 (zT (l.take 0)):=by
   refine⟨?_,wV▸(aO.made m).alloc _,λ s u h=>by cases h⟩;have h:=ah.new (m.alloc (.map #[] 0)) 82 #[.map (some m.heap.size),ek el 0];rw[wV];simpa using h
  rw[<- wV];clear wV d2;obtain⟨tb,bm⟩:=aG (m.heap.size+1);obtain⟨mb,bh⟩:=aG (m.heap.size);rw[<- bm,<- bh] at T5 ⊢;have ZN:=qh (es bm bh);have ds:=qh T5;have HR:=qh (show ∀ cur,DD m cur->Reads cur w.heap.size 2 AE l.length (nY l) from λ cur C=>HE.o.1.below (aZ.trans (C.mono D)));have KF:=qh (show ∀ cur s,DD m cur->s.size<=2000000->Calls lM 24 #[eo (some ⟨gb,0,none⟩),em s] cur λ e w'=>TZ B0 (findF f.lists (ai f) s) e w'/\DD cur w' from λ cur s C hs=>by
   have cc:=aZ.trans (C.mono aZ.size);have T:=WI.o N.o;exact Jn (HK.o.keep C) T.co (λ d hd=>(T.ch d hd).1) hs (aB jU.o.1 cc) (jU.o.2.below cc))
  have HG:=qh (show ((l.take 0).map (·.1)).Nodup/\∀ e∈l.take 0,(findF f.lists (ai f) e.1).2=true/\(findF f.lists (ai f) e.1).1≠[] from ⟨List.nodup_nil,λ e h=>by cases h⟩);clear bm bh T5;go_loopw [46] (λ i wr=>∃ j:Nat,i = ek el j/\j<=l.length/\Hid (uP wr tb mb 0 (zT (l.take j)))/\Hid (((l.take j).map (·.1)).Nodup/\∀ e∈l.take j,(findF f.lists (ai f) e.1).2=true/\(findF f.lists (ai f) e.1).1≠[])/\DD m wr) (λ i _=>l.length+1 - (intOf i).toNat)
  case atStart=>exact⟨0,rfl,ey _,ds,HG,c7⟩
  case round =>
   obtain⟨j,rfl,hj,HT,HG,C⟩:=hrel;obtain⟨wo,rfl⟩:=aG (wr);by_cases hlt:j<l.length
   case neg =>
    obtain rfl:j=l.length:=by omega
    rw[eR] at HT HG;have WJ:=WI.o N.o;have bv:=aZ.trans (C.mono D);have KP:=qh (places_any (HK.o.keep C) WJ.co WJ.ls WJ.ch (aB jU.o.1 bv));have cF:=qh (Dj WJ);have Z:=yI WJ HK.o.nodes.1;obtain⟨P,hP⟩:=af (bJ f.lists (ai f));rw[hP] at KP cF Z;have HP:=qh hP;clear WJ hP;go_upto_region 20 with (go_at_call 25;(with_reducible refine KP.o.mono ?_);rintro e2 w2 ⟨⟨v,rfl,bj⟩,aR⟩;obtain⟨AP,cP,rfl⟩:=dX bj);have Qq:=C.trans (aR.mono C.size);have HQ:=qh (show ∀ cur,DD w2 cur->Reads cur w2.heap.size 1 AP P.length (dP P) from λ cur hc=>(Reads.fB bj).below hc);have cH:=qh (HT.o.below aR);have c6:=qh (show ∀ s∈P.take 0,(findF f.lists (ai f) s).1≠[]->∃ e∈l,e.1=s from λ s h=>by cases h);have WY:=qh (es Qq bv);clear bj aR Qq bv KP;go_loopw [90] (λ i wr=>∃ j:Nat,i = ek el j/\j<=P.length/\Hid (∀ s∈P.take j,(findF f.lists (ai f) s).1≠[]->∃ e∈l,e.1=s)/\DD w2 wr) (λ i _=>P.length+1 - (intOf i).toNat)
    case atStart=>exact⟨0,rfl,ey _,c6,Below.refl _ _⟩
    case round =>
     obtain⟨j,rfl,hj,HM,C⟩:=hrel;obtain⟨wp,rfl⟩:=aG (wr);by_cases hlt:j<P.length
     case neg =>
      obtain rfl:j=P.length:=by omega
      rw[eR] at HM;have aw:=WY.o.1.trans (C.mono WY.o.1.size);have cv:=aZ.trans (aw.mono D);have ce:=qh (cH.o.below C);have T:=WI.o N.o;have a7:=(fJ.o.2.1.below Dn.o fJ.o.2.1.lt).below aw (eA (Nat.lt_succ_self _) (fc am));have q2:=a7.cell 2;have X:(wL 26 (eo (some ⟨w.heap.size,0,none⟩))).run lM wp = .ok (.agg (BK f x)) wp:=lQ (cs:=[em f.nm,ek el f.jo,en x.AL f.ag.length x.cl,en x.AS f.lists.length x.cs,en x.AI f.items.length x.ci]) rfl (gZ a7);have KC:=qh (RY (al.o.1.keep cv) cv.size al.o.2.2 (by have:=T.la.2;omega) (by have:=T.ls.1;omega) (λ l hl=>⟨by have:=T.ls.2 l hl;omega,λ o ho=>by
       have:=T.la.2;rcases ((O8 N.o).ln l hl).2.2 o ho |>.2.2 with e | e
       .rw[e];exact ey _
       .omega⟩))
      have a5:=qh a7;clear T a7 C;go_upto_region 27 with (go_at_call 26;(with_reducible refine KC.o.mono ?_);rintro e4 w4 ⟨⟨vl,vs,vi,Ll,Ls,Li,rfl,⟨AL,cl,rfl⟩,hF,hK⟩,B⟩;obtain⟨I,cs,rfl⟩:=hF.ls.sl;obtain⟨O,Q,rfl⟩:=hF.it.sl;have bL:=zf (w:=w4) (cs:=[em f.nm,ek el f.jo,en AL f.ag.length cl,en I f.lists.length cs,en O f.items.length Q]) rfl (by simp[eD]));clear bL;have bp:tb≠mb:=by have:=ZN.o;omega
      have K:=DF.of hF hK aw B ce.o ⟨bp,by have:=ZN.o;omega,by have:=ZN.o;omega⟩;have ca:DD w4 (w4.alloc (.cells #[em f.nm,ek el f.jo,en AL f.ag.length cl,en I f.lists.length cs,en O f.items.length Q] 26 (0,0))):=az w4 _;have a3:=(a5.o.below B a5.o.lt).below ca (eA a5.o.lt B.size);obtain⟨W6,uN⟩:=aG (w4.alloc (.cells #[em f.nm,ek el f.jo,en AL f.ag.length cl,en I f.lists.length cs,en O f.items.length Q] 26 (0,0)));have cw:w4.heap.size≠tb/\w4.heap.size≠w.heap.size:=by
       have h1:=ce.o.blk.lt;have h2:=B.size;have h3:=aw.size;exact⟨by omega,by omega⟩
      change DF m m.heap.size _ w4.heap.size tb mb 0 (zT l) _ f _ _ _ Ll Ls Li at K;obtain⟨q,hq⟩:∃ q:Nat->Prop,(λ k=>wp.heap.size<=k/\k<w4.heap.size/\k ∉ Ll ++ Ls ++ Li)=q:=⟨_,rfl⟩;rw[<- uN] at K a3 ⊢;have cK:=qh (show ∀ k,q k->m.heap.size<=k from λ k Y=>by rw[<- hq] at Y;have:=aw.size;omega);rw[hq] at K;obtain⟨go,cf⟩:=af (w4.heap.size);rw[cf] at K cw ⊢;have KI:=qh (show ∀ cur,DD w cur->Calls lM 7 #[en x.AL f.ag.length x.cl,em nm] cur λ e w'=>e = eq (ek el (if xA f.ag nm<f.ag.length then ((xA f.ag nm:Nat):Int) else -1))/\cur=w' from λ cur hc=>(GR _ _ _ _ _ _ ((WI.o N.o).la.1) dp (al.o.1.la.1.below hc)).mono λ _ _ h=>⟨h.1,h.2.symm⟩);have a2:=qh K;have q2:=a3.cell 2;have cV:=qh a3;have H:=K.fr;have OX:DD w W6:=aZ.trans (H.mono D);have t1:=K.tr.blk.cell 1;have y1:=K.tr.blk.frozen 1;clear hF hK uN ca hq cf a3 K X KC a5 B;obtain⟨pl,Z⟩:=af (xA f.ag nm);rw[Z] at KI;have dt:=qh Z;have c9:pl<=f.ag.length:=by rw[<- Z];exact List.findIdx_le_length
      clear Z;obtain⟨ix,bP⟩:∃ z:Int,(if pl<f.ag.length then ((pl:Nat):Int) else -1)=z:=⟨_,rfl⟩;rw[bP] at KI;have cz:=qh (KI.o W6 OX);have a4:=qh bP;clear bP KI;go_upto_region 28 with (go_at_call 7;(with_reducible refine cz.o.mono ?_);rintro e5 w5 ⟨rfl,rfl⟩);have aL:aC tb W6 (W6.setCell ⟨tb,1,none⟩ (ek el ix)):=(aC.refl _ _).set 1 _;have B1:ah (W6.setCell ⟨tb,1,none⟩ (ek el ix)) tb 82 #[.map (some mb),ek el ix]:=a2.o.tr.blk.bP 1 _;obtain⟨V1,b6⟩:=aG (W6.setCell ⟨tb,1,none⟩ (ek el ix));rw[<- b6] at aL B1 ⊢;have ay:=qh (es aL B1);have z1:=B1.cell 1;have y1:=B1.frozen 1;have z2:=(aL.blk cV.o (λ e=>by have h:=ZN.o;omega)).cell 2;have z3:=(aL.blk a2.o.blk cw.1.symm.symm).cell 2;clear b6 t1 q2 cz aL B1
      go_upto_if 132 with (fail)
      go_cut [] from 133 to 144 (λ wd=>∃ G U,Hid (DF m m.heap.size q go tb mb pl (zT l) wd { f with ag:=if pl<f.ag.length then f.ag else f.ag ++ [nm] } G (en I f.lists.length cs) (en O f.items.length Q) U Ls Li))
      case first =>
       by_cases hlt:pl<f.ag.length
       .obtain rfl:ix=(pl:Int):=by have h:=a4.o;rw[if_pos hlt] at h;exact h.symm
        have HE:=qh (show DF m m.heap.size q go tb mb pl (zT l) V1 { f with ag:=if pl<f.ag.length then f.ag else f.ag ++ [nm] } _ _ _ Ll Ls Li from by rw[if_pos hlt];exact a2.o.placed ay.o.1 ay.o.2);have g0:¬ ((pl:Int)<0):=by omega
        clear hlt a4;go_wp2
        go_meet
        exact⟨_,_,HE⟩
       .obtain rfl:ix = -1:=by have h:=a4.o;rw[if_neg hlt] at h;exact h.symm
        obtain rfl:pl=f.ag.length:=by omega
        have SY:=qh hlt;have gm:decide ((-1:Int)<0)=true:=by decide
        clear hlt a4;go_upto_region 30 with (fail);have br:=ay.o.1.set 1 (.int .i64 (f.ag.length:Int));have B2:ah (V1.setCell ⟨tb,1,none⟩ (.int .i64 (f.ag.length:Int))) tb 82 #[.map (some mb),.int .i64 (f.ag.length:Int)]:=ay.o.2.bP 1 _;obtain⟨V2,cg⟩:=aG (V1.setCell ⟨tb,1,none⟩ (.int .i64 (f.ag.length:Int)));rw[<- cg] at br B2 ⊢;have a9:=a2.o.placed (p:=f.ag.length) br B2;have z4:=a9.blk.cell 2;have ho:=a9.la.2.1;have bb:=qh a9;have dv:f.ag.length<=6:=(WI.o N.o).la.2;clear cg z1 y1 z2 z3 a9 B2 br;go_wp2_with (at_builtin;refine wpList_append_lies _ rfl _ _ 22 rfl 0 9 i0 (.string ByteArray.empty) 1 16 underlying22 dy dT cR cI rfl (by decide) _ _ _ rfl (ho.alloc _) ⟨V2.heap.size,0,none⟩ 1 1 [.string nm] rfl rfl ?c1 ?c2 (by decide) ?c3 ?c4 ?c5 _ rfl ?_)
        case c1=>exact World.news_of_block (ah.new V2 9 _)
        case c2=>intro u hu;simp only[eC] at hu;subst hu;rfl
        case c3=>unfold maxLen;omega
        case c4=>omega
        case c5=>exact ey _
        intro g4 d4 w6 aD bl lu db;have bf:=az V2 (.cells #[em nm] 9 (0,0));have B6:=(bb.o.later bf).blk.grown bl (λ e=>((bb.o.ap go (er _ (er _ (by rw[bb.o.ll];exact dB.2 e.symm)))).2.2.1 rfl));have z5:=B6.cell 2;have y5:=B6.frozen 2;have HE:=qh (bb.o.aoO (by unfold maxLen;omega) bf bl (lu.imp id λ e=>by omega) aD);rw[<- show (if f.ag.length<f.ag.length then f.ag else f.ag ++ [nm])=f.ag ++ [nm] from if_neg SY.o] at HE;clear aD bl lu db B6 bf ho z4;go_wp2
        go_meet
        exact⟨_,_,HE⟩
      case rest =>
       obtain⟨wq,rfl⟩:=aG (wc);obtain⟨G,U,HF⟩:=hcut;clear z1 y1 z2 z3 a2 ay H OX;obtain⟨M,bw⟩:=af ((if pl<f.ag.length then f.ag else f.ag ++ [nm]));rw[bw] at HF;have de:=qh bw;clear bw;obtain⟨tf,cr⟩:=af (zL (zT l));have PW:=qh cr;obtain⟨TL,bE⟩:=af (f.lists.map (aaw pl tf));have ar:TL.length=f.lists.length:=by rw[<- bE,eV]
       have tY:=qh bE;obtain⟨ae,aq⟩:∃ z,eZ O f.items.length Q=z:=⟨_,rfl⟩;have dv:f.lists.length<=100:=(WI.o N.o).ls.1;have dj:=qh (show ∀ x∈f.lists,x.nm.size<=1000/\x.os.length<=1000/\∀ o∈x.os,(0<=o.code/\o.code<=999)/\(o.ph≠[]->pl<=o.ph.length)/\o.ph.length<=1000000 from λ x hx=>⟨((WI.o N.o).co x hx).1,(WI.o N.o).ls.2 x hx,λ o ho=>⟨((WI.o N.o).co x hx).2 o ho,by
        have:=(WI.o N.o).la.2;rcases ((O8 N.o).ln x hx).2.2 o ho |>.2.2 with e | e
        .rw[e];exact⟨λ q=>absurd rfl q,ey _⟩
        .exact⟨λ _=>by omega,by omega⟩⟩⟩)
       have cS:=qh (show PL m m.heap.size q go tb mb pl (zT l) wq { f with ag:=M } G (en I f.lists.length cs) ae U Li (jQ TL f.lists 0) from ⟨Ls,by rw[xh,<- aq];exact HF.o⟩);have z3:=HF.o.blk.cell 3;have c8:=qh aq;clear cr bE aq HF;go_upto_region 33 with (fail);clear z3;go_loopw [148] (λ i wr=>∃ k:Nat,i = ek el k/\k<=f.lists.length/\Hid (PL m m.heap.size q go tb mb pl (zT l) wr { f with ag:=M } G (en I f.lists.length cs) ae U Li (jQ TL f.lists k))) (λ i _=>f.lists.length+1 - (intOf i).toNat)
       case atStart=>exact⟨0,rfl,ey _,cS⟩
       case round =>
        obtain⟨k,rfl,Y,Uu⟩:=hrel;obtain⟨b2,rfl⟩:=aG (wr);by_cases hlt:k<f.lists.length
        case neg =>
         obtain rfl:k=f.lists.length:=by omega
         rw[zO ar] at Uu;obtain⟨ej,hF⟩:=Uu.o;have aq:=c8.o;subst aq;have dN:=aZ.trans (hF.fr.mono D);have z4:=hF.blk.cell 4;have bX:=allI N.o (by have:=al.o.2.2;omega) c9;have cC:f.items.length<=1048576:=by have:=al.o.2.2;have:=D9 f.items;omega
         have da:=qh ((WV f.items m b2 q tb mb pl (zT l) O Q Li hF.it (λ k Y=>by have h:=hF.ap k (et _ Y);exact⟨h.2.1,h.2.2.2.1,h.2.2.2.2.1,h.1⟩) (λ k Y=>(hF.qs k Y).1) hF.tr bX (aB jU.o.1 aZ) hF.fr cC).mono (R':=λ e w'=>e = eq (.tuple #[])/\∃ x':jS,G = en x'.AL M.length x'.cl/\eZ I f.lists.length cs = en x'.AS TL.length x'.cs/\eZ O f.items.length Q = en x'.AI (lq pl tf f.items).length x'.ci/\ah w' go 26 #[em f.nm,ek el f.jo,G,en I f.lists.length cs,en O f.items.length Q]/\FoZ m.heap.size w' { f with ag:=M,lists:=TL,items:=lq pl tf f.items } x'/\DD m w') λ e w' hq=>by
          obtain⟨S,L',r1,r2,r3⟩:=hq;rw[PW.o] at r1;exact⟨S,DF.items hF r3 r1 r2 cK.o⟩)
         clear hF bX Uu;go_upto_region 42 with (go_at_call 29;(with_reducible refine da.o.mono ?_);rintro e6 w6 ⟨rfl,⟨Jp,J,dd,bk,d1,cL,cQ,dq⟩,rfl,e2,e3,hB,hZ,aa⟩);obtain⟨rfl,cq,rfl⟩:I=dd/\f.lists.length=TL.length/\cs=bk:=by injection e2 with h1 h2 h3;exact⟨h1,h2,h3⟩
         obtain⟨rfl,cB,rfl⟩:O=d1/\f.items.length=(lq pl tf f.items).length/\Q=cL:=by injection e3 with h1 h2 h3;exact⟨h1,h2,h3⟩
         have b5:=aZ.trans (aa.mono D);have aM:({ f with ag:=M,lists:=TL,items:=lq pl tf f.items }:aI)=iY f nm (oJ l):=by
          have e:=ag1 HG.o.1;rw[PW.o] at e;unfold iY;rw[<- e,dt.o,de.o,tY.o]
         have cG:nV (ai { f with ag:=M,lists:=TL,items:=lq pl tf f.items }):=by
          rw[aM,BP];exact Jq al.o.2.1 _ _
         have KC:=qh (show Calls lM 13 #[.agg #[em f.nm,ek el f.jo,en Jp M.length J,en I f.lists.length cs,en O f.items.length Q]] w6 λ e w'=>e = eq (ek el (aX (iY f nm (oJ l))))/\DD w6 w' from by
          have h:=RG hZ.form cG (aB jU.o.1 b5) (jU.o.2.below b5);rw[aM] at h;have h2:(Value.agg #[em f.nm,ek el f.jo,en Jp M.length J,en I f.lists.length cs,en O f.items.length Q]) = .agg #[em f.nm,ek el f.jo,en Jp M.length J,en I TL.length cs,en O (lq pl tf f.items).length Q]:=by rw[<- cq,<- cB]
          rw[h2];rw[<- aM] at h ⊢;exact h)
         have X:(wL 26 (eo (some ⟨go,0,none⟩))).run lM w6 = .ok (.agg #[em f.nm,ek el f.jo,en Jp M.length J,en I f.lists.length cs,en O f.items.length Q]) w6:=lQ (cs:=[em f.nm,ek el f.jo,en Jp M.length J,en I f.lists.length cs,en O f.items.length Q]) rfl (gZ hB);have HZ:=qh (es hZ (es hB aM));obtain⟨n,hn⟩:=af (aX (iY f nm (oJ l)));rw[hn] at KC;have HN:=qh hn;clear hZ hB aM cG hn e2 e3 cq cB ar;go_upto_region 43 with (go_at_call 13;(with_reducible refine KC.o.mono ?_);rintro e7 w7 ⟨rfl,bN⟩);clear X;have bO:=aa.trans (bN.mono aa.size);have Rz:=aZ.trans (bO.mono D);by_cases h0:n=0
         case neg =>
          obtain⟨s1,s2,s3⟩:=stF (em ⟨#[]⟩) (ek el 0) (en none 0 0) (en none 0 0) (en none 0 0) (jT.o.below bO am) rfl (by simp[eD]);have F:=qh (es s2 s3);have E:(n != 0)=true:=bne_iff_ne.2 h0;clear s2 s3;go_wp2;exact GX rfl rfl rfl F.o.1 ⟨.inl ⟨n,h0,rfl⟩,Rz.trans (F.o.2.below (eF _))⟩
         subst h0;have ck:=HZ.o.2.1.below bN HZ.o.2.1.lt;have l2:(wL 26 (eo (some ⟨go,0,none⟩))).run lM w7 = .ok (.agg #[em f.nm,ek el f.jo,en Jp M.length J,en I f.lists.length cs,en O f.items.length Q]) w7:=lQ (cs:=[em f.nm,ek el f.jo,en Jp M.length J,en I f.lists.length cs,en O f.items.length Q]) rfl (gZ ck);obtain⟨s1,s2,s3⟩:=stF (em f.nm) (ek el f.jo) (en Jp M.length J) (en I f.lists.length cs) (en O f.items.length Q) (jT.o.below bO am) rfl (by simp[eD]);have F:=qh (es s2 s3);have d0:=qh ((HZ.o.1.keep (aK.of bN)).keep (s3.stay λ k Y e=>by omega));clear ck s2 s3;go_wp2;refine GX rfl rfl rfl F.o.1 ⟨.inr ⟨N.o,HG.o.1,HG.o.2,?_,HN.o,⟨Jp,J,I,cs,O,Q,cQ,dq⟩,?_,?_⟩,Rz.trans (F.o.2.below (eF _))⟩
         .rw[HP.o];exact HM.o
         .rw[<- HZ.o.2.2];rfl
         .rw[<- HZ.o.2.2];exact d0.o.form
        have ak:=zQ ar hlt;have ch:=dj.o _ (eL hlt);have bz:TL[k]?=some (aaw pl tf f.lists[k]):=by rw[<- tY.o,e9,eK hlt];rfl
        obtain⟨y,cj⟩:=af (f.lists[k]);rw[cj] at ak ch bz;have b1:=zN ar Y;have cx:=qh (zS ar hlt bz);obtain⟨lst,yH⟩:=af (jQ TL f.lists k);rw[yH] at ak b1 cx Uu;obtain⟨bs,bk,A5,c5,hv,z3,p0,p1⟩:=Uu.o.list ak;obtain⟨rfl,rfl⟩:I=some ⟨bs,0,none⟩/\cs=bk:=by injection hv with h1 _ h3;exact⟨h1,h3⟩
        have aV:=qh hlt;have d6:=qh ak;have Xe:=qh (show PL m m.heap.size q go tb mb pl (zT l) b2 { f with ag:=M } G (en (some ⟨bs,0,none⟩) f.lists.length cs) ae U Li (lst.set k { y with os:=jQ (y.os.map (Kz pl tf y.nm)) y.os 0 }) from by
         rw[xh];obtain⟨hq,e⟩:=List.getElem?_eq_some_iff.1 ak;have e2:lst.set k y=lst:=by rw[<- e,List.set_getElem_self]
         exact e2.symm▸Uu.o)
        obtain⟨ed,d7,b9⟩:=ch;have cJ:=qh b9;have c0:k<lst.length:=by omega
        clear hv ak yH cj bz b9 Uu;go_upto_region 36 with (fail);clear z3 p0 p1;go_loopw [158] (λ i V=>∃ j:Nat,i = ek el j/\j<=y.os.length/\Hid (PL m m.heap.size q go tb mb pl (zT l) V { f with ag:=M } G (en (some ⟨bs,0,none⟩) f.lists.length cs) ae U Li (lst.set k { y with os:=jQ (y.os.map (Kz pl tf y.nm)) y.os j }))) (λ i _=>y.os.length+1 - (intOf i).toNat)
        case atStart=>exact⟨0,rfl,ey _,Xe⟩
        case round =>
         obtain⟨j,rfl,hj,Uu⟩:=hrel;obtain⟨V,rfl⟩:=aG (wr);by_cases hjl:j<y.os.length
         case neg =>
          obtain rfl:j=y.os.length:=by omega
          rw[zO (by rw[eV])] at Uu;have HN:=qh (show PL m m.heap.size q go tb mb pl (zT l) V { f with ag:=M } G (en (some ⟨bs,0,none⟩) f.lists.length cs) ae U Li (jQ TL f.lists (k+1)) from by rw[<- cx.o];exact Uu.o);go_wp2;go_roundw
          case rel=>exact⟨k+1,by go_num,aV.o,HN⟩
          case measure =>
           have:=aV.o;simp[intOf];omega
         have bd:=cJ.o _ (eL hjl);have bx:(y.os.map (Kz pl tf y.nm)).length=y.os.length:=by rw[eV]
         have ba:=zQ bx hjl;obtain⟨o,ho⟩:=af (y.os[j]);have b0:(y.os.map (Kz pl tf y.nm))[j]?=some (Kz pl tf y.nm o):=by rw[e9,eK hjl,ho];rfl
         have b3:=qh (zS bx hjl b0);rw[ho] at bd ba;have cn:=zN bx hj;obtain⟨mo,bR⟩:=af (jQ (y.os.map (Kz pl tf y.nm)) y.os j);rw[bR] at Uu ba b3 cn;have ap:(lst.set k { y with os:=mo })[k]?=some { y with os:=mo }:=by rw[List.getElem?_set_self c0]
         have bt:(lst.set k { y with os:=mo }).length=f.lists.length:=by rw[fg];exact b1
         have bS:=Uu.o.later (Below.refl _ V).drew;obtain⟨cY,d5,A5,c5,hv,z3,p0,-⟩:=Uu.o.list ap;obtain rfl:bs=cY:=by injection hv with h1;injection h1 with h1;injection h1
         obtain⟨bo,co,p1,o0,ax⟩:=PL.opt (bs:=bs) (cs:=cs) (lst:=lst.set k { y with os:=mo }) (by rw[bt];exact bS) ap (j:=j) ba;rw[bt] at ax;rw[show ({ y with os:=mo }:aS).os.length=y.os.length from cn] at p1;have dl:V.cell? ⟨bs,k*2+1,none⟩=some (en (some ⟨bo,0,none⟩) y.os.length co):=p1;have dc:V.cell? ⟨bo,j*4,none⟩=some (ek el o.code):=o0;have b4:=aZ.trans (Uu.o.fr.mono D);have L:DD V V.drew:=(Below.refl _ _).drew;have F:=qh (show ∀ cur,DD V cur->cur.cell? ⟨go,3,none⟩=some (en (some ⟨bs,0,none⟩) f.lists.length cs)/\cur.cell? ⟨bs,k*2,none⟩=some (em y.nm)/\cur.cell? ⟨bs,k*2+1,none⟩=some (en (some ⟨bo,0,none⟩) y.os.length co)/\cur.cell? ⟨bo,j*4,none⟩=some (ek el o.code) from λ cur C=>⟨Below.cell_of C z3,Below.cell_of C p0,Below.cell_of C dl,Below.cell_of C dc⟩);have KP:=qh (show ∀ w2 (t:ByteArray),Below V.drew.heap.size V.drew w2->t.data.toList=Lib.itoa o.code->Calls lM 27 #[eo (some ⟨tb,0,none⟩),eo (some ⟨bo,j*4+1,none⟩),em (((⟨#[58]⟩:ByteArray) ++ y.nm) ++ (⟨#[47]⟩:ByteArray) ++ t)] w2 λ e w'=>e = eq (.tuple #[])/\PL m m.heap.size q go tb mb pl (zT l) w' { f with ag:=M } G (en (some ⟨bs,0,none⟩) f.lists.length cs) ae U Li (lst.set k { y with os:=jQ (y.os.map (Kz pl tf y.nm)) y.os (j+1) }) from λ w2 t aR ht=>by
          have ew:((⟨#[58]⟩:ByteArray) ++ y.nm) ++ (⟨#[47]⟩:ByteArray) ++ t=xx y.nm o.code:=by
           refine qU ?_;show _=58 :: (y.nm.data.toList ++ 47 :: Lib.itoa o.code);rw[<- ht];simp
          rw[ew];have cC:=Lib.itoa_length_le o.code (by omega) (by omega);have h:=ax (xx y.nm o.code) (by rw[Jo];unfold maxLen;omega) bd.2.1 bd.2.2 w2 aR;rw[List.set_set,PW.o] at h;rw[<- b3.o];exact h)
         have KI:=qh (show Calls lM 28 #[ek el o.code] V.drew λ e w'=>(∃ t:ByteArray,e = eq (em t)/\t.data.toList=Lib.itoa o.code/\t.size<=30)/\Below V.drew.heap.size V.drew w' from (kC o.code V.drew (by omega) (by omega) (aB jU.o.1 (b4.trans (L.mono b4.size)))).mono λ _ _ ⟨⟨t,S,ht⟩,C⟩=>⟨⟨t,S,ht,by
          have:=Lib.itoa_length_le o.code (by omega) (by omega);rw[<- aN,ht];omega⟩,C⟩)
         have D6:=qh hjl;have ec:¬ 9223372036854775807<1+y.nm.size:=by omega
         have eb:¬ 9223372036854775807<1+y.nm.size+1:=by omega
         clear hv p1 o0 ax bS ap ba b0 ho bR bt;go_upto_region 38 with (fail);go_region_with (first
          | (go_at_call 28;(with_reducible refine KI.o.mono ?_);rintro e3 w3 ⟨⟨t,rfl,ht,d8⟩,B⟩;have dw:=qh (KP.o w3 t B ht);have d9:¬ 9223372036854775807<1+y.nm.size+1+t.size:=(by omega);obtain⟨ei,ef,eh,ee⟩:=F.o w3 (L.trans B))
          | (go_at_call 27;(with_reducible refine dw.o.mono ?_);rintro e4 w4 ⟨rfl,h4⟩))
         all_goals
          (try go_wp2_with fail)
          go_roundw
          case rel=>exact⟨j+1,by go_num,D6.o,qh h4⟩
          case measure =>
           have:=D6.o;simp[intOf];omega
     obtain⟨ad,u,rfl,bg,hu,cb⟩:=(HQ.o wp C).at_ hlt;obtain rfl:u = em P[j]:=by
      unfold dP at hu;rw[e9,eK hlt] at hu;exact (eM hu).symm
     have cT:=WY.o.1.trans (C.mono WY.o.1.size);have cp:=cF.o P[j] (eL hlt);have jr:=qh (eN hlt);obtain⟨s,hs⟩:=af (P[j]);rw[hs] at cb cp jr;have KJ:=qh (KF.o wp s cT (by omega));obtain⟨⟨ph,ok⟩,hr⟩:∃ r,findF f.lists (ai f) s=r:=⟨_,rfl⟩;rw[hr] at KJ;have bn:=qh hr;have aV:=qh hlt;clear hs hr hu;go_upto_region 22 with (go_at_call 24;(with_reducible refine KJ.o.mono ?_);rintro e3 w3 ⟨⟨A3,c3,n3,rfl,bB⟩,R⟩);have B:DD w3 (w3.alloc (.cells #[.slice A3 ph.length c3,.int .i64 n3] 85 (0,0))):=az w3 _;have BX:=ah.new w3 85 #[.slice A3 ph.length c3,.int .i64 n3];obtain⟨W8,aE⟩:=aG (w3.alloc (.cells #[.slice A3 ph.length c3,.int .i64 n3] 85 (0,0)));rw[<- aE] at B BX ⊢;have q0:=BX.cell 0;have a6:=C.trans ((R.trans (B.mono R.size)).mono C.size);have bi:=cH.o.below a6;have t0:=bi.blk.cell 0;have X:=bi.map.look (t:=80) (e:=9) underlying80 (z:=.string ⟨#[]⟩) (by kernel_rfl) (s:=s) (by unfold maxLen;omega);have Sr:=WY.o.1.trans (a6.mono WY.o.1.size);have cu:=qh (es (jT.o.below Sr am) (aZ.trans (Sr.mono D)));clear aE B BX bB R KJ bi cb;by_cases hbad:di (zT l) s=none/\ph≠[]
     case pos =>
      obtain⟨Y,E⟩:=hbad;rw[Y] at X;simp only[Option.getD_none,fa] at X;have Z:0<ph.length:=fj.2 E;have d3:(0:Int)<ph.length:=by omega
      obtain⟨s1,s2,s3⟩:=stF (em ⟨#[]⟩) (ek el 0) (en none 0 0) (en none 0 0) (en none 0 0) cu.o.1 rfl (by simp[eD]);have F:=qh (es s2 s3);clear s2 s3 Y E;go_wp2;exact GX rfl rfl rfl F.o.1 ⟨.inl ⟨_,by decide,rfl⟩,cu.o.2.trans (F.o.2.below (eF _))⟩
     have Xd:=qh (show ∀ s∈P.take (j+1),(findF f.lists (ai f) s).1≠[]->∃ e∈l,e.1=s from by
      rw[jr.o];intro r hr E;rcases eB.1 hr with hr | hr
      .exact HM.o r hr E
      .rw[eC] at hr;subst hr;rw[bn.o] at E;have h:=λ q=>hbad ⟨q,E⟩;rw[GZ] at h;obtain⟨e,S,q⟩:=eJ.1 (Classical.byContradiction h);exact⟨e,S,q⟩)
     cases Y:di (zT l) s with
     | some u =>
      rw[Y] at X;simp only[fk,fl] at X;clear Y hbad;go_wp2;go_roundw
      case rel=>exact⟨j+1,by go_num,aV.o,Xd,a6⟩
      case measure =>
       have:=aV.o;simp[intOf];omega
     | none =>
      obtain rfl:ph = []:=eE λ h=>hbad ⟨Y,h⟩;rw[Y] at X;simp only[Option.getD_none,fa] at X;clear Y hbad;go_wp2;go_roundw
      case rel=>exact⟨j+1,by go_num,aV.o,Xd,a6⟩
      case measure =>
       have:=aV.o;simp[intOf];omega
   obtain⟨ad,rfl,p0,p1⟩:=G5 (HR.o wo C) hlt;have jr:=qh (eN hlt);have av:=HE.o.2 _ (eL hlt);obtain⟨⟨s,t⟩,S⟩:∃ e,l[j]=e:=⟨_,rfl⟩;rw[S] at p0 p1 jr av;obtain⟨cW,bL⟩:=av;dsimp only at p0 p1 cW bL;have aV:=qh hlt;obtain⟨W6,uN,aa,BE⟩:=box wo 36 #[.string s,.string t];have H:=C.trans (aa.mono C.size);have a8:=HT.o.below aa;have e0:=BE.cell 0;have e1:=BE.cell 1;have t0:=a8.blk.cell 0;have HL:=qh (show ∀ cur,DD W6 cur->(Instr.lookup 80 (.map (some mb)) (.string s) true).run lM cur = .ok (.tuple #[(di (zT (l.take j)) s).getD (.string ⟨#[]⟩),.bool (di (zT (l.take j)) s).isSome]) cur from λ cur hc=>(a8.below hc).map.look (t:=80) (e:=9) underlying80 (z:=.string ⟨#[]⟩) (by kernel_rfl) (by unfold maxLen;omega));have cA:=qh a8;have bq:=qh BE;clear S a8 BE;go_upto_region 10 with (fail);rw[<- uN];clear p0 p1 uN aa;cases hq:di (zT (l.take j)) s with
   | some u =>
    rw[hq] at HL;have X:=HL.o _ (Below.refl _ _);have l2:=HL.o _ (Below.refl _ _).drew;simp only[fk,fl] at X l2;obtain⟨s1,s2,s3⟩:=stF (em ⟨#[]⟩) (ek el 0) (en none 0 0) (en none 0 0) (en none 0 0) (jT.o.below H.drew am) rfl (by simp[eD]);have F:=qh (es s2 s3);have dr:=aZ.trans (H.mono D);clear s2 s3 hq;go_region
    all_goals
     go_wp2;exact GX rfl rfl rfl F.o.1 ⟨.inl ⟨_,by decide,rfl⟩,dr.drew.trans (F.o.2.below (eF _))⟩
   | none =>
    rw[hq] at HL;have X:=HL.o _ (Below.refl _ _);have l2:=HL.o _ (Below.refl _ _).drew;simp only[Option.getD_none,fa] at X l2;have cN:=qh (GZ.1 hq);clear hq HL;go_region
    all_goals
     clear X l2;have L:DD W6 W6.drew:=(Below.refl _ _).drew;have WZ:DD m W6.drew:=H.drew;have be:=qh (cA.o.below L);have a1:=qh (bq.o.below L bq.o.lt);have e0:=a1.o.cell 0;obtain⟨W7,RP⟩:=aG (W6.drew);rw[<- RP] at WZ be a1 e0 ⊢;have KJ:=qh (KF.o W7 s WZ (by omega));obtain⟨⟨ph,ok⟩,hr⟩:∃ r,findF f.lists (ai f) s=r:=⟨_,rfl⟩;rw[hr] at KJ;have bn:=qh hr;clear hr RP L bq cA t0 e1;go_upto_region 14 with (go_at_call 24;(with_reducible refine KJ.o.mono ?_);rintro e3 w3 ⟨⟨A3,c3,n3,rfl,bB⟩,R⟩);have dm:=WZ.trans (R.mono WZ.size);have B:DD w3 (w3.alloc (.cells #[en A3 ph.length c3,ek el n3] 85 (0,0))):=az w3 _;have BX:=ah.new w3 85 #[en A3 ph.length c3,ek el n3];obtain⟨W8,aE⟩:=aG (w3.alloc (.cells #[en A3 ph.length c3,ek el n3] 85 (0,0)));rw[<- aE] at B BX ⊢;have q0:=BX.cell 0;have a0:=R.trans (B.mono R.size);have Sr:=WZ.trans (a0.mono WZ.size);have ct:=qh (be.o.below a0);have b7:=qh (a1.o.below a0 a1.o.lt);clear aE B BX bB R dm a1 be KJ e0;by_cases hgood:ok=true/\ph≠[]
     case neg =>
      obtain⟨s1,s2,s3⟩:=stF (em ⟨#[]⟩) (ek el 0) (en none 0 0) (en none 0 0) (en none 0 0) (jT.o.below Sr am) rfl (by simp[eD]);have F:=qh (es s2 s3);have dz:=aZ.trans (Sr.mono D);clear s2 s3;cases ok
      case' true=>(obtain rfl:ph = []:=eE λ h=>hgood ⟨rfl,h⟩)
      all_goals
       clear hgood;go_wp2;exact GX rfl rfl rfl F.o.1 ⟨.inl ⟨_,by decide,rfl⟩,dz.trans (F.o.2.below (eF _))⟩
     obtain⟨rfl,E⟩:=hgood;have Z:0<ph.length:=fj.2 E;have h0:((ph.length:Int) == 0)=false:=by simp;omega
     have cM:=qh E;clear E;go_upto_region 16 with (fail);have L:DD W8 W8.drew:=(Below.refl _ _).drew;have ac:=ct.o.below L;obtain⟨w9,cD,ao,Wq⟩:=ac.map.put (t:=80) (e:=9) underlying80 (by unfold zT;rw[List.length_reverse,eV,List.length_take];unfold maxLen;omega) (s:=s) (by unfold maxLen;omega) (.string t);have t0:=ct.o.blk.cell 0;have e0:=b7.o.cell 0;have e1:=b7.o.cell 1;have cU:=qh (es ac (es ao Wq));clear q0 h0 L ac ao Wq;go_region
     all_goals
      obtain⟨ac,ao,Wq⟩:=cU.o;have bp:tb≠mb:=by have:=ZN.o;omega
      have cX:=qh (show uP w9 tb mb 0 (zT (l.take (j+1))) from by
       rw[jr.o,PM];refine⟨ac.blk.grown Wq (λ e=>bp (eM e)),ao,?_⟩;rw[<- PM,<- jr.o];exact adW λ e S=>by have:=(HE.o.2 e (List.mem_of_mem_take S)).2;unfold maxLen;omega)
      have dx:=qh (show ((l.take (j+1)).map (·.1)).Nodup/\∀ e∈l.take (j+1),(findF f.lists (ai f) e.1).2=true/\(findF f.lists (ai f) e.1).1≠[] from by
       rw[jr.o];refine⟨?_,λ e S=>?_⟩
       .rw[List.map_append,ev];refine⟨HG.o.1,by simp,λ a ha b C=>?_⟩;rw[List.map_singleton,eC] at C;rw[C];exact λ q=>cN.o (by rw[show a=s from q] at ha;exact ha)
       .rcases eB.1 S with S | S
        .exact HG.o.2 e S
        .rw[eC] at S;rw[S];show (findF f.lists (ai f) s).2=true/\_;rw[bn.o];exact⟨rfl,cM.o⟩)
      have DC:DD m w9:=Sr.drew.grown Wq Sr.size (λ g hg=>by have h:=eM hg;have:=ZN.o;omega);clear ac ao Wq cD
      (try go_wp2_with fail)
      go_roundw
      case rel=>exact⟨j+1,by go_num,aV.o,cX,dx,DC⟩
      case measure =>
       have:=aV.o;simp[intOf];omega
end
open Go.RowKit
attribute [local go_sem ↓] Go.wp_at_zero Go.wp_at_succ
theorem aa2 (a b:ByteArray):(a.toList == b.toList)=decide (a=b):=by
 by_cases h:a=b
 .rw[kH h,decide_eq_true h]
 .rw[dV h,decide_eq_false h]
theorem aeP (p q:jO) (w:World):(Op.equalIn (9999+1) 36 (.agg #[em p.1,em p.2]) (.agg #[em q.1,em q.2])).run lM w = .ok (decide (p=q)) w:=by
 have u9:=underlying9;have d:=isAgg9;have e:=sizeOf9;have c:lM.underlying 36=some (.struct (lM.fieldsOf 36)):=by kernel_rfl
 have b:lM.stoodInHeld 36=false:=by kernel_rfl
 have a:decide (p=q)=((p.1.toList == q.1.toList) && (p.2.toList == q.2.toList)):=by
  rw[aa2,aa2,<- Bool.decide_and];exact decide_eq_decide.2 ⟨λ h=>by rw[h];exact⟨rfl,rfl⟩,λ h=>Prod.ext h.1 h.2⟩
 rw[run_equalIn_agg w 9999 36 _ _ c b,a];simp only[Program.fieldsOf,underlying36]
 go_simp
 by_cases h1:p.1.toList=q.1.toList <;> by_cases h2:p.2.toList=q.2.toList <;> simp[h1,h2]
theorem ao0 (p q:jO) (w:World):(binOp .eql 36 (.agg #[em p.1,em p.2]) (.agg #[em q.1,em q.2])).run lM w = .ok (ep (decide (p=q))) w:=by
 rw[run_eql_struct,show (10000:Nat)=9999+1 from rfl,aeP];rfl
theorem aks (p q:jO) (w:World):(binOp .neq 36 (.agg #[em p.1,em p.2]) (.agg #[em q.1,em q.2])).run lM w = .ok (ep (!decide (p=q))) w:=by
 rw[run_neq_struct,show (10000:Nat)=9999+1 from rfl,aeP];rfl
theorem Su {w:World} {B:Nat} {A:Option Addr} {c:Nat} {l:List jO} (e:jO) (h:Reads w B 2 A l.length (nY l)) (L:B<=w.heap.size) (O:l.length<=1048576) :
  Calls lM 31 #[en A l.length c,.agg #[em e.1,em e.2]] w λ r w'=>(∃ i:Int,r = eq (ek el i)/\(0<=i ↔ e∈l))/\DD w w':=by
 obtain⟨W,F,a,n⟩:=box w 36 #[em e.1,em e.2];have p:=n.cell 0;have v:=n.cell 1;have G:=qh (show ∀ cur,DD W cur->Reads cur B 2 A l.length (nY l)/\cur.cell? ⟨w.heap.size,0,none⟩=some (em e.1)/\cur.cell? ⟨w.heap.size,1,none⟩=some (em e.2)/\DD w cur from λ cur m=>⟨h.below ((a.trans (m.mono a.size)).mono L),Below.cell_of m p,Below.cell_of m v,a.trans (m.mono a.size)⟩);clear h a n;go_enter func31,ntmps31;go_upto_region 1 with (fail);rw[<- F];clear F;go_upto_region 3 with (fail);go_loopw [8] (λ i wr=>∃ k:Nat,i = ek el k/\k<=l.length/\Hid (∀ x∈l.take k,x≠e)/\DD W wr) (λ i _=>l.length+1 - (intOf i).toNat)
 case atStart=>exact⟨0,rfl,ey _,qh (λ x s=>by cases s),Below.refl _ _⟩
 case round =>
  obtain⟨k,rfl,N,o,a⟩:=hrel;obtain⟨J,rfl⟩:=aG (wr);clear p v;obtain⟨j,p,v,f⟩:=G.o J a;by_cases hlt:k<l.length
  case neg =>
   obtain rfl:k=l.length:=by omega
   rw[eR] at o;go_wp2;go_ret;exact⟨⟨-1,rfl,⟨λ h=>absurd h (by decide),λ h=>absurd rfl (o.o e h)⟩⟩,f⟩
  obtain⟨ad,rfl,I,K⟩:=G5 j hlt;have u:=eL hlt;have E:=qh (eN hlt);obtain⟨y,C⟩:=af (l[k]);rw[C] at I K u E;have H:=qh u;have D:=qh hlt;obtain⟨b,d⟩:=af (decide (e=y));have M:∀ w,(binOp .eql 36 (.agg #[em e.1,em e.2]) (.agg #[em y.1,em y.2])).run lM w = .ok (ep b) w:=λ w=>d▸ao0 e y w;have g:=qh d;clear d C u;have t:=qh (show b=false->∀ x∈l.take (k+1),x≠e from λ a=>by
   rw[E.o];intro x s;rcases eB.1 s with q | q
   .exact o.o x q
   .rw[eC] at q;rw[q];exact λ q=>of_decide_eq_false (g.o.trans a) q.symm)
  have z:=a.drew;clear j;go_upto_region 4 with (fail);go_region
  all_goals
   cases b
  case' true =>
   go_wp2;go_ret;exact⟨⟨k,rfl,⟨λ _=>by rw[of_decide_eq_true g.o];exact H.o,λ _=>by omega⟩⟩,f.drew⟩
  case' false =>
   go_wp2;go_roundw
   case rel=>exact⟨k+1,by go_num,D.o,qh (t.o rfl),z⟩
   case measure =>
    have:=D.o;simp[intOf];omega
theorem Ih {w:World} {B:Nat} {A:Option Addr} {c:Nat} {l:List jO} (e:jO) (h:Reads w B 2 A l.length (nY l)) (m:B<=w.heap.size) (p:l.length<=1048576) :
  Calls lM 10 #[en A l.length c,.agg #[em e.1,em e.2]] w λ r w'=>(∃ b:Bool,r = eq (ep b)/\(b=true ↔ e∈l))/\DD w w':=by
 obtain⟨W,j,a,d⟩:=box w 36 #[em e.1,em e.2];have t:=d.cell 0;have u:=d.cell 1;have n:=qh (Su (c:=c) e (h.below (a.mono m)) (eS m a.size) p);have k:=qh a;clear h a d;go_enter func10,ntmps10;go_upto_region 1 with (fail);rw[<- j];clear j;go_wp2_with (go_at_call 31;(with_reducible refine n.o.mono ?_);rintro s q ⟨⟨i,rfl,g⟩,f⟩;have o:=qh g;clear g);go_ret;exact⟨⟨decide (0<=i),rfl,decide_eq_true_iff.trans o.o⟩,k.o.trans (f.mono k.o.size)⟩
theorem Sv {w:World} {B B':Nat} {A A':Option Addr} {c c':Nat} {xs ys:List jO} (m:Reads w B 2 A xs.length (nY xs)) (o:Reads w B' 2 A' ys.length (nY ys)) (T:B<=w.heap.size) (F:B'<=w.heap.size) (N:xs.length<=1048576) (C:ys.length<=1048576) :
  CS 9 #[en A xs.length c,en A' ys.length c'] w (ep (decide (xs=ys))):=by
 by_cases hlen:xs.length=ys.length
 case neg =>
  have s:¬ xs=ys:=λ e=>hlen (by rw[e]);have V:((xs.length:Int) != (ys.length:Int))=true:=by simp;omega
  clear m o;go_enter func9,ntmps9;go_wp2;go_ret;exact⟨by rw[decide_eq_false s];rfl,Below.refl _ _⟩
 have E:=qh (show ∀ cur,DD w cur->Reads cur B 2 A xs.length (nY xs)/\Reads cur B' 2 A' ys.length (nY ys) from λ cur K=>⟨m.below (K.mono T),o.below (K.mono F)⟩);obtain⟨n,v⟩:=af (xs.length);have d:ys.length=n:=by omega
 have l:=qh (es v d);rw[v,d] at E;rw[v] at N;rw[v,d];have s:((n:Int) != (n:Int))=false:=by simp
 clear m o hlen v d C;go_enter func9,ntmps9;go_upto_region 5 with (fail);go_loopw [13] (λ i wr=>∃ k:Nat,i = ek el k/\k<=n/\Hid (xs.take k=ys.take k)/\DD w wr) (λ i _=>n+1 - (intOf i).toNat)
 case atStart=>exact⟨0,rfl,ey _,qh rfl,Below.refl _ _⟩
 case round =>
  obtain⟨k,rfl,W,H,z⟩:=hrel;obtain⟨I,rfl⟩:=aG (wr);by_cases hlt:k<n
  case neg =>
   obtain rfl:k=n:=by omega
   have L:=qh (show xs=ys from by
    have h:=H.o
    rwa [fm (by rw[l.o.1];exact eI _),fm (by rw[l.o.2];exact eI _)] at h)
   go_wp2;go_ret;exact⟨by rw[decide_eq_true L.o];rfl,z⟩
  have f:k<xs.length:=by rw[l.o.1];exact hlt
  have a:k<ys.length:=by rw[l.o.2];exact hlt
  obtain⟨ad,P,O,R⟩:=G5 (by rw[l.o.1];exact (E.o I z).1) f;obtain⟨S,D,M,Q⟩:=G5 (by rw[l.o.2];exact (E.o I z).2) a;subst P D;have t:=qh (eN f);have p:=qh (eN a);have g:=qh (es (eK f) (eK a));obtain⟨x,m⟩:=af (xs[k]);obtain⟨y,o⟩:=af (ys[k]);rw[m] at O R t g;rw[o] at M Q p g;have J:=qh hlt;obtain⟨b,j⟩:=af (decide (x=y));have U:∀ w,(binOp .neq 36 (.agg #[em x.1,em x.2]) (.agg #[em y.1,em y.2])).run lM w = .ok (ep (!b)) w:=λ w=>j▸aks x y w;have q:=qh j;have u:=z.drew;clear j m o f a;go_upto_region 6 with (fail);go_region
  all_goals
   cases b
  case' false =>
   go_wp2;go_ret;exact⟨by rw[decide_eq_false (λ e=>of_decide_eq_false q.o (by have h:=g.o;rw[e,h.2] at h;exact (eM h.1).symm))];rfl,u⟩
  case' true =>
   have G:=qh (show xs.take (k+1)=ys.take (k+1) from by rw[t.o,p.o,H.o,of_decide_eq_true q.o]);go_wp2;go_roundw
   case rel=>exact⟨k+1,by go_num,J.o,G,u⟩
   case measure =>
    have:=J.o;simp[intOf];omega
end Go.Proofs.YtcnagconagpkcaaGreatDoor
