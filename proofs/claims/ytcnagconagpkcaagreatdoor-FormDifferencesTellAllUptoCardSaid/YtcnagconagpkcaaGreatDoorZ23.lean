/- Lemmas. -/
import Derived.Test.YtcnagconagpkcaaGreatDoorZ22
open Go.Value renaming string->ab, slice->ac, pointer->ae
open List renaming getElem_mem->ak, mem_cons->am, length_append->ao, getElem?_eq_getElem->ap, mem_append->ar, mem_map->av, append_assoc->aw, eq_nil_iff_forall_not_mem->ax, getElem_of_mem->ay, mem_flatMap->aD, length->aE, ext_getElem->aL, getElem?_map->aM, singleton_append->aX, mem_singleton->aZ, nil_append->a0, append_nil->a1, findIdx?_eq_some_iff_getElem->a3, pairwise_cons->a4
open Decidable renaming byContradiction->al
open SizeOf renaming sizeOf->aq
open Option.some renaming injEq->aR, inj->a2
namespace Go.Proofs.YtcnagconagpkcaaGreatDoor
def kP (N:List ah) (i:Int):List ItemD:=(N.filter (λ d=>decide (d.par=i))).map (·.it)
structure TrN (n:Nat) (par:Int) (l:List ItemD) (t:List ah):Prop where
 a:∀ d∈t,(d.par=par\/(n:Int)<=d.par)/\d.par<n+t.length
 b:kP t par=l
 c:∀ i (h:i<t.length),kP t ((n+i:Nat):Int)=t[i].it.items
theorem pO (a b:List ah) (i:Int):kP (a ++ b) i=kP a i ++ kP b i:=by simp[kP]
theorem uQ {a:List ah} {i:Int} (h:∀ d∈a,d.par≠i):kP a i = []:=by
 simp only[kP,List.map_eq_nil_iff,List.filter_eq_nil_iff,decide_eq_true_eq];exact h
mutual
theorem ItemD.ae2:∀ (g:ItemD) (a:List ah) (b f d:Int) (c:List ByteArray),∃ t,g.add a b f d c=a ++ t
 | .mk k nm iff ph items sh cnt over ans cmp,a,b,f,d,c=>by
  rw[ItemD.add];obtain⟨t,e⟩:=uS items (a ++ [⟨.mk k nm iff ph items sh cnt over ans cmp,b,f,d,c⟩]) a.length 0 (d+1) (if k=3 then c ++ [nm] else c);exact⟨_ :: t,by rw[e,aw];rfl⟩
theorem uS:∀ (l:List ItemD) (a:List ah) (b d f:Int) (c:List ByteArray),∃ t,kR l a b d f c=a ++ t
 | [],a,_,_,_,_=>⟨[],by rw[kR];simp⟩
 | it :: r,a,b,d,f,c=>by
  rw[kR];split
  .exact⟨[],by simp⟩
  .obtain⟨t,e⟩:=ItemD.ae2 it a b d f c;obtain⟨h,g⟩:=uS r (it.add a b d f c) b (d+1) f c;exact⟨t ++ h,by rw[g,e,aw]⟩
end
def GK (N:List ah):Prop:=N.length<=300/\∀ d∈N,d.dJ<=12
theorem GK.left {a b:List ah} (h:GK (a ++ b)):GK a:=⟨by have:=h.1;rw[ao] at this;omega,λ d c=>h.2 d (List.mem_append_left _ c)⟩
mutual
theorem ItemD.ae3:∀ (h:ItemD) (b:List ah) (c m f:Int) (g:List ByteArray),c<b.length->GK (h.add b c m f g)->∃ t,h.add b c m f g=b ++ t/\TrN b.length c [h] t/\0<t.length
 | .mk k nm iff ph items sh cnt over ans cmp,b,c,m,f,g,hp,hc=>by
  rw[ItemD.add] at hc ⊢;generalize r:(if k=3 then g ++ [nm] else g)=lo' at hc ⊢;generalize hit:ItemD.mk k nm iff ph items sh cnt over ans cmp=h at hc ⊢;have o:h.items=items:=by rw[<- hit];rfl
  obtain⟨x,s⟩:=(uS items (b ++ [⟨h,c,m,f,g⟩]) b.length 0 (f+1) lo');have v:f<=12:=hc.2 ⟨h,c,m,f,g⟩ (by rw[s];simp);obtain⟨t,e,n⟩:=Ld items (b ++ [⟨h,c,m,f,g⟩]) b.length 0 (f+1) lo' (by simp;omega) (by omega) hc;rw[ao] at n;have n:TrN (b.length+1) b.length items t:=n;refine⟨⟨h,c,m,f,g⟩ :: t,by rw[e,aw];rfl,⟨λ d l=>?_,?_,λ i p=>?_⟩,by simp⟩
  .rcases am.1 l with rfl | l
   .exact⟨.inl rfl,by simp;omega⟩
   .obtain⟨u,y⟩:=n.a d l;rw[List.length_cons];exact⟨.inr (by omega),by omega⟩
  .rw[<- aX,pO,uQ (a:=t) (λ d l=>by obtain⟨u,-⟩:=n.a d l;omega)];simp[kP]
  .have q:∀ j:Int,c<j->kP (⟨h,c,m,f,g⟩ :: t) j=kP t j:=λ j w=>by
    rw[<- aX,pO,uQ (a:=[_]) (λ d l=>by rw[aZ] at l;subst l;show c≠_;omega),a0]
   rw[q _ (by omega)];cases i with
   | zero=>exact n.b.trans o.symm
   | succ i =>
    have:=n.c i (by simpa using p);rw[show b.length+(i+1)=b.length+1+i by omega];exact this
theorem Ld:∀ (l:List ItemD) (c:List ah) (b g e:Int) (f:List ByteArray),b<c.length->e<=13->GK (kR l c b g e f)->∃ t,kR l c b g e f=c ++ t/\TrN c.length b l t
 | [],c,b,_,_,_,_,_,_=>by
  rw[kR];exact⟨[],by simp,λ d h=>(by cases h),rfl,λ i h=>absurd h (Nat.not_lt_zero _)⟩
 | it :: r,c,b,g,e,f,hp,hv,hc=>by
  rw[kR] at hc ⊢;split at hc
  .rename_i h;have:=hc.1;omega
  .rename_i h;rw[if_neg h];obtain⟨x,v⟩:=uS r (it.add c b g e f) b (g+1) e f;obtain⟨k,s,n,w⟩:=ItemD.ae3 it c b g e f hp (by rw[v] at hc;exact hc.left);rw[s] at hc ⊢;obtain⟨o,u,m⟩:=Ld r (c ++ k) b (g+1) e f (by rw[ao];omega) hv hc;rw[ao] at m;refine⟨k ++ o,by rw[u,aw],⟨λ d j=>?_,?_,λ i p=>?_⟩⟩
   .rw[ao];rcases ar.1 j with q | q
    .have:=n.a d q;omega
    .have:=m.a d q;omega
   .rw[pO,n.b,m.b];rfl
   .rw[pO];by_cases hi1:i<k.length
    .rw[uQ (a:=o) (λ d j=>by have:=m.a d j;omega),a1,n.c i hi1,List.getElem_append_left hi1]
    .rw[ao] at p;rw[uQ (a:=k) (λ d j=>by have:=n.a d j;omega),a0,List.getElem_append_right (by omega),<- m.c (i - k.length) (by omega)];congr 1;omega
end
theorem Rq {f:aG} (h:GK (aC f)):kP (aC f) (-1)=f.items/\∀ i (b:i<(aC f).length),kP (aC f) i=(aC f)[i].it.items:=by
 obtain⟨t,e,a⟩:=Ld f.items [] (-1) 0 1 [] (by simp) (by omega) h;have e:aC f=t:=e;rw[e];exact⟨a.b,λ i b=>by have:=a.c i b;simpa using this⟩
abbrev jE:=Int × ByteArray
open Classical in
noncomputable def Rt (c:Prop) (k:Int) (nm:ByteArray):List jE:=if c then [(k,nm)] else []
def jC (N:List ah) (d:ah):ByteArray:=if 0<=d.par then (je N d.par).it.nm else ⟨#[]⟩
def GL (N M:List ah) (nm:ByteArray) (d:ah):Prop:=0<=bG M d.it.nm/\jC N d=nm/\jC M (je M (bG M d.it.nm))=nm
open Classical in
noncomputable def rH (N M:List ah) (nm:ByteArray):List ByteArray:=(N.filter (λ d=>decide (GL N M nm d))).map (·.it.nm)
open Classical in
noncomputable def xZ (N M:List ah) (nm:ByteArray):List jE:=Rt (rH N M nm≠rH M N nm) 4 nm
def jS.bare (a:jS):jS:={ a with ch:=a.ch.map (λ r=>{ r with ph:=[] }) }
def rtE (a b:ItemD):Prop:=a.k=b.k/\a.iff=b.iff/\a.sh=b.sh/\a.cnt=b.cnt/\a.over=b.over/\a.cmp=b.cmp
def phE (a b:ItemD):Prop:=a.ph=b.ph/\∀ i (h:i<a.ans.ch.length) (h':i<b.ans.ch.length),a.ans.ch[i].ph=b.ans.ch[i].ph
open Classical in
noncomputable def rJ (N M:List ah) (d:ah):List jE:=
 if bG M d.it.nm<0 then [(1,d.it.nm)] else
  Rt (jC N d≠jC M (je M (bG M d.it.nm))) 3 d.it.nm ++ Rt (¬ rtE d.it (je M (bG M d.it.nm)).it) 5 d.it.nm ++
  Rt (d.it.k=4/\(je M (bG M d.it.nm)).it.k=4/\d.it.ans.bare≠(je M (bG M d.it.nm)).it.ans.bare) 6 d.it.nm ++
  Rt (¬ phE d.it (je M (bG M d.it.nm)).it) 7 d.it.nm ++ xZ N M d.it.nm
open Classical in
noncomputable def GM (N:List ah) (d:ah):List jE:=Rt (bG N d.it.nm<0) 2 d.it.nm
open Classical in
noncomputable def nG (N M:List ah):List jE:=xZ N M ⟨#[]⟩ ++ N.flatMap (rJ N M) ++ M.flatMap (GM N)
open Classical in
noncomputable def xe (L:List aW) (l:aW):List jE:=Rt (eX L l.nm≠some l) 8 l.nm
open Classical in
noncomputable def Ar (L:List aW) (l:aW):List jE:=Rt (eX L l.nm=none) 8 l.nm
open Classical in
noncomputable def rM (a b:aG):List jE:=
 nG (aC a) (aC b) ++ a.lists.flatMap (xe b.lists) ++ b.lists.flatMap (Ar a.lists) ++ Rt (a.nm≠b.nm\/a.aA≠b.aA) 9 ⟨#[]⟩
def Z5 (p:jE):jE:=(if p.1=1 then 2 else if p.1=2 then 1 else p.1,p.2)
theorem Le (p:jE):Z5 (Z5 p)=p:=by
 obtain⟨k,nm⟩:=p;unfold Z5;dsimp only;by_cases h1:k=1
 .subst h1;rfl
 by_cases h2:k=2
 .subst h2;rfl
 simp[h1,h2]
open Classical in
theorem eP {c:Prop} {k:Int} {nm:ByteArray} {p:jE}:p∈Rt c k nm ↔ c/\p=(k,nm):=by
 unfold Rt;split <;> simp_all
end Go.Proofs.YtcnagconagpkcaaGreatDoor
namespace Go.Proofs.YtcnagconagpkcaaGreatDoor
open Go.RowKit
attribute [local go_sem ↓] Go.wp_at_zero Go.wp_at_succ
set_option maxHeartbeats 4000000
set_option maxRecDepth 100000
def O3 (l:List jE):List Value:=l.flatMap (λ p=>[.int .i64 p.1,ab p.2])
theorem V3 (l:List jE) (k:Int) (s:ByteArray):O3 (l ++ [(k,s)])=O3 l ++ [.int .i64 k,ab s]:=by simp[O3]
structure oM (w0 w:World) (g ga gb:Nat) (l:List jE):Prop where
 bel:EG w0 w
 lo:w0.heap.size<=g
 row:∃ A c,ag w g 127 #[ae (some ⟨ga,0,none⟩),ae (some ⟨gb,0,none⟩),ac A l.length c]/\w.ownsRow w0.heap.size 131 2 (ac A l.length c) l.length (O3 l)
structure rO (w0 w w':World):Prop where
 bel:Below w0.heap.size w w'
 blk:∀ b T cs,ag w b T cs->T≠127->T≠131->ag w' b T cs
theorem rO.of {w0 w w':World} (h:EG w w') (a:w0.heap.size<=w.heap.size):rO w0 w w':=⟨h.mono a,λ _ _ _ b _ _=>b.below h b.lt⟩
theorem rO.trans {w0 w w' w'':World} (h:rO w0 w w') (k:rO w0 w' w''):rO w0 w w'':=⟨h.bel.trans k.bel,λ b T cs q a c=>k.blk b T cs (h.blk b T cs q a c) a c⟩
theorem oM.keep {w0 w w':World} {g b e:Nat} {l:List jE} (h:oM w0 w g b e l) (a:EG w w'):oM w0 w' g b e l:=by
 obtain⟨A,c,d,f⟩:=h.row;exact⟨h.bel.trans (a.mono h.bel.size),h.lo,A,c,d.below a d.lt,dm f a⟩
theorem acE:(Tryz.prog.info? 131).map (λ i=>(i.zero,i.size,i.bytes))=some (some (.agg #[.int .i64 0,.string ⟨#[]⟩]),2,24):=by kernel_rfl
def x8 (b:Bool) (k:Int) (s:ByteArray):List jE:=if b then [(k,s)] else []
theorem rP (p:Prop) (b:Bool) (h:p ↔ b=true) (k:Int) (s:ByteArray):Rt p k s=x8 b k s:=by
 unfold Rt x8;cases b
 .rw[if_neg (λ q=>by cases h.1 q)];rfl
 .rw[if_pos (h.2 rfl)];rfl
theorem Z7 {w:World} {B k n g:Nat} {T d:TypeId} {v:Value} {xs:List Value} {cs:Array Value} (h:w.ownsRow B T k v n xs) (m:ag w g d cs) (p:T≠d) (j:Nat) (u:Value):(w.setCell ⟨g,j,none⟩ u).ownsRow B T k v n xs:=by
 have a:=jw h m p;refine⟨h.1,h.2.imp id ?_⟩;rintro ⟨f,c,b,i,l,o,e3⟩;exact⟨f,c,b,i,l,(Below.heap_setCell w _ u f (λ e=>a (by rw[i,e];rfl))).trans o,e3⟩
theorem Au {w0 w:World} {g H D:Nat} {l:List jE} (h:oM w0 w g H D l) (Z:l.length<=1000000) (b:Bool) (k:Int) (s:ByteArray) :
  Calls Tryz.prog 46 #[ae (some ⟨g,0,none⟩),.bool b,.int .i64 k,ab s] w λ e w'=>e = .returned (.tuple #[])/\oM w0 w' g H D (l ++ x8 b k s)/\rO w0 w w':=by
 cases b
 .go_enter Tryz.func46,Tryz.ntmps46;go_wp2;go_end0;exact⟨rfl,by unfold x8;rw[if_neg (by decide),a1];exact h,rO.of (Below.refl _ _) h.bel.size⟩
 obtain⟨O,v,q,x,r⟩:=info_parts acE;obtain⟨A,c,B,E⟩:=h.row;have t:=qh (And.intro h.bel h.lo);have y:=h.bel.size;have q2:w.cell? ⟨g,2,none⟩=some (.slice A l.length c):=B.cell 2;have f2:w.frozen? ⟨g,2,none⟩=false:=B.frozen 2;have Y:=B.lt;have C:=qh B;clear h B;go_enter Tryz.func46,Tryz.ntmps46;go_wp2_with (at_builtin;refine wpList_append_lies _ rfl _ _ 71 rfl w0.heap.size 131 O (.agg #[.int .i64 0,.string ⟨#[]⟩]) 2 24 Tryz.underlying71 v q x r rfl (by decide) _ _ _ rfl (E.alloc _) ⟨w.heap.size,0,none⟩ 1 1 [.int .i64 k,.string s] rfl rfl ?c1 ?c2 (by decide) ?c3 ?c4 ?c5 _ rfl ?_)
 case c1=>exact World.news_of_block (ag.new w 131 _)
 case c2=>intro u G;simp only[am,List.not_mem_nil,or_false] at G;rcases G with rfl | rfl <;> rfl
 case c3=>unfold maxLen;omega
 case c4=>omega
 case c5=>simp;omega
 intro N F w2 a d W S;have o:=E.alloc (.cells #[.int .i64 k,ab s] 131 (0,0));have B2:=(C.o.alloc (.cells #[.int .i64 k,ab s] 131 (0,0))).grown d (λ e=>jw o (C.o.alloc _) (by decide) e.symm);have V:w2.cell? ⟨g,2,none⟩=some (ac A l.length c):=B2.cell 2;have P:w2.frozen? ⟨g,2,none⟩=false:=B2.frozen 2;have Q:=aB w (.cells #[.int .i64 k,ab s] 131 (0,0));have j:Below w0.heap.size w w2:=(Q.mono y).grown d (by simp;omega) (λ g U=>(o.lt g U).1);have f:∀ b T cs,ag w b T cs->T≠127->T≠131->ag w2 b T cs:=λ b T cs L M n=>(L.alloc _).grown d (λ e=>jw o (L.alloc _) n.symm e.symm);have X:=qh (And.intro a (And.intro B2 (And.intro j f)));clear a d B2 j f o;go_wp2;go_end0;obtain⟨M,n,R,I⟩:=X.o;have m:(l ++ x8 true k s).length=l.length+1:=by unfold x8;simp
 have i:=R.setCell (p:=⟨g,2,none⟩) t.o.2 (ac (some ⟨N,0,none⟩) (l.length+1) F);refine⟨rfl,⟨t.o.1.trans i,t.o.2,some ⟨N,0,none⟩,F,?_,?_⟩,i,λ b T cs K z J=>(I b T cs K z J).far (λ e=>?_) _⟩
 .rw[m];exact n.dS 2 _
 .rw[m,show x8 true k s = [(k,s)] from rfl,V3];exact Z7 M n (by decide) _ _
 .obtain rfl:b=g:=e;exact ag.ne_ (I _ T cs K z J) n z rfl
theorem uT {w:World} {B0 m G B D:Nat} {x:ku} {f:aG} {N:List ah} {K:aV} (h:aJ w B0 m G B D x f N K) (E:eH N) (n:Nat) (p:n<N.length) :
  He 93 #[ae (some ⟨m,0,none⟩),.int .i64 n] w (ab (jC N N[n])):=by
 obtain⟨ad,A,c,k,-,-,-,-,-,d,-,-,-⟩:=h.WH p;have C:w.cell? ⟨m,5,none⟩=some (ac x.AN N.length x.cn):=h.blk.cell 5;rw[k] at C;have u:=h.cap;have I:=h.nodes.1;obtain⟨t,y⟩:=E n p;have a:=qh (show jC N N[n]=if 0<=N[n].par then (je N N[n].par).it.nm else ⟨#[]⟩ from rfl);by_cases h0:0<=N[n].par
 .obtain⟨i,l⟩:∃ i:Nat,N[n].par=i:=⟨N[n].par.toNat,by omega⟩;have j:i<N.length:=by omega
  obtain⟨o,A',c',g,-,-,F,-,-,-,-,-,-⟩:=h.WH j;obtain rfl:ad=o:=a2 (k.symm.trans g);have a:=qh (a.o.trans (if_pos h0));rw[l,iY j] at a;rw[l] at d;obtain⟨s,v⟩:=af (N[i].it.nm);rw[v] at F a;obtain⟨r,b⟩:=af (jC N N[n]);rw[b] at a ⊢;clear h k g h0 l t y v b;go_enter Tryz.func93,Tryz.ntmps93;go_wp2;go_ret;exact⟨by rw[a.o];rfl,rfl⟩
 .obtain⟨q,z⟩:=af (N[n].par);have a:=qh (a.o.trans (if_neg h0));obtain⟨r,b⟩:=af (jC N N[n]);rw[b] at a ⊢;rw[z] at d h0;have H:decide (q >= 0)=false:=decide_eq_false h0;clear h k t y z b;go_enter Tryz.func93,Tryz.ntmps93;go_wp2;go_ret;exact⟨by rw[a.o];rfl,rfl⟩
end Go.Proofs.YtcnagconagpkcaaGreatDoor
namespace Go.Proofs.YtcnagconagpkcaaGreatDoor
theorem oh {α:Type} {p:α->Bool} {l:List α} {a:α} (h:a∈l.filter p):a∈l:=(List.mem_filter.1 h).1
theorem CV {N:List ah} {s:ByteArray}:bG N s<0 ↔ ∀ d∈N,d.it.nm≠s:=by
 unfold bG;cases h:N.findIdx? (λ d=>decide (d.it.nm=s)) with
 | none =>
  rw[List.findIdx?_eq_none_iff] at h;simpa using h
 | some i =>
  rw[a3] at h;obtain⟨b,a,-⟩:=h;simp only[decide_eq_true_eq] at a;constructor
  .intro h;dsimp only at h;omega
  .intro h;exact absurd a (h _ (ak b))
structure qI (N:List ah):Prop where
 one:∀ d∈N,∀ e∈N,d.it.nm=e.it.nm->d=e
 ne:∀ d∈N,d.it.nm≠⟨#[]⟩
 par:∀ d∈N,d.par<0/\d.par = -1\/∃ i:Nat,d.par=i/\∃ h:i<N.length,jC N d=N[i].it.nm
 num:∀ i (h:i<N.length),bG N N[i].it.nm=i
 kids:∀ i (h:i<N.length),kP N i=N[i].it.items
 bare:∀ d∈N,d.it.k≠4->d.it.ans=XI
theorem qI.at_ {N:List ah} (h:qI N) {d:ah} (b:d∈N):je N (bG N d.it.nm)=d:=by
 obtain⟨i,a,rfl⟩:=ay b;rw[h.num i a,iY a]
theorem qI.mem {N:List ah} {s:ByteArray} (a:¬ bG N s<0):je N (bG N s)∈N/\(je N (bG N s)).it.nm=s:=by
 unfold bG at a ⊢;cases h:N.findIdx? (λ d=>decide (d.it.nm=s)) with
 | none=>rw[h] at a;exact absurd (by decide) a
 | some i =>
  rw[a3] at h;obtain⟨b,c,-⟩:=h;dsimp only;rw[iY b];exact⟨ak b,by simpa using c⟩
theorem qC {L:List aW} {s:ByteArray} {l:aW} (h:eX L s=some l):l∈L/\l.nm=s:=by
 unfold eX at h;exact⟨List.mem_of_find?_eq_some h,by simpa using List.find?_some h⟩
theorem Ru {L:List aW} {s:ByteArray}:eX L s=none ↔ ∀ l∈L,l.nm≠s:=by
 unfold eX;rw[List.find?_eq_none];simp
def CW (L:List aW):Prop:=∀ l∈L,∀ m∈L,l.nm=m.nm->l=m
theorem CW.find {L:List aW} (h:CW L) {l:aW} (a:l∈L):eX L l.nm=some l:=by
 cases e:eX L l.nm with
 | none=>exact absurd rfl (Ru.1 e l a)
 | some m =>
  obtain⟨b,c⟩:=qC e;rw[h l a m b c.symm]
open Classical in
theorem lG {N M:List ah} {d:ah} {p:jE}:p∈rJ N M d ↔ (bG M d.it.nm<0/\p=(1,d.it.nm))\/(¬ bG M d.it.nm<0 /\
  ((jC N d≠jC M (je M (bG M d.it.nm))/\p=(3,d.it.nm))\/(¬ rtE d.it (je M (bG M d.it.nm)).it/\p=(5,d.it.nm)) \/
  ((d.it.k=4/\(je M (bG M d.it.nm)).it.k=4/\d.it.ans.bare≠(je M (bG M d.it.nm)).it.ans.bare)/\p=(6,d.it.nm)) \/
  (¬ phE d.it (je M (bG M d.it.nm)).it/\p=(7,d.it.nm))\/(rH N M d.it.nm≠rH M N d.it.nm/\p=(4,d.it.nm)))):=by
 unfold rJ xZ;by_cases h:bG M d.it.nm<0
 .simp only[h,if_true,true_and,not_true,false_and,or_false,aZ]
 .simp only[h,if_false,false_and,false_or,not_false_eq_true,true_and,ar,eP,or_assoc]
theorem Z8 {a b:ItemD}:rtE a b ↔ rtE b a:=by
 unfold rtE;constructor <;> (rintro ⟨f,h,c,d,e,g⟩;exact⟨f.symm,h.symm,c.symm,d.symm,e.symm,g.symm⟩)
theorem Z9 {a b:ItemD}:phE a b ↔ phE b a:=by
 unfold phE;constructor <;> (rintro ⟨d,e⟩;exact⟨d.symm,λ i h c=>(e i c h).symm⟩)
theorem ae4 {N M:List ah} (i:qI N) {d:ah} (f:d∈N) {p:jE} (h:p∈rJ N M d):(∃ e∈M,Z5 p∈rJ M N e)\/Z5 p∈GM M d:=by
 rw[lG] at h;rcases h with ⟨c,rfl⟩ | ⟨c,h⟩
 .exact .inr (eP.2 ⟨c,rfl⟩)
 .obtain⟨g,a⟩:=qI.mem c;generalize je M (bG M d.it.nm)=e at h g a;refine .inl ⟨e,g,?_⟩;have j:¬ bG N e.it.nm<0:=λ b=>(CV.1 b) d f a.symm;have k:je N (bG N e.it.nm)=d:=by rw[a];exact i.at_ f
  rw[lG,k];refine .inr ⟨j,?_⟩;rw[a];rcases h with ⟨q,rfl⟩ | ⟨q,rfl⟩ | ⟨q,rfl⟩ | ⟨q,rfl⟩ | ⟨q,rfl⟩
  .exact .inl ⟨q.symm,rfl⟩
  .exact .inr (.inl ⟨λ b=>q (Z8.1 b),rfl⟩)
  .exact .inr (.inr (.inl ⟨⟨q.2.1,q.1,q.2.2.symm⟩,rfl⟩))
  .exact .inr (.inr (.inr (.inl ⟨λ b=>q (Z9.1 b),rfl⟩)))
  .exact .inr (.inr (.inr (.inr ⟨q.symm,rfl⟩)))
theorem aab {L M:List aW} (g:CW L) {l:aW} (d:l∈L) {p:jE} (h:p∈xe M l):(∃ m∈M,Z5 p∈xe L m)\/Z5 p∈Ar M l:=by
 obtain⟨c,rfl⟩:=eP.1 h;cases e:eX M l.nm with
 | none=>exact .inr (eP.2 ⟨e,rfl⟩)
 | some m =>
  obtain⟨f,a⟩:=qC e;refine .inl ⟨m,f,eP.2 ⟨λ b=>c ?_,by rw[a];rfl⟩⟩;rw[a,g.find d] at b;rw[e,a2 b]
theorem aac {a b:aG} (f:qI (aC a)) (g:CW a.lists) {p:jE} (h:p∈rM a b):Z5 p∈rM b a:=by
 unfold rM nG at h ⊢;simp only[ar,aD] at h ⊢;rcases h with ((((h | ⟨d,c,h⟩) | ⟨d,c,h⟩) | ⟨l,hl,h⟩) | ⟨l,hl,h⟩) | h
 .obtain⟨q,rfl⟩:=eP.1 h;exact .inl (.inl (.inl (.inl (.inl (eP.2 ⟨q.symm,rfl⟩)))))
 .rcases ae4 f c h with q | q
  .exact .inl (.inl (.inl (.inl (.inr q))))
  .exact .inl (.inl (.inl (.inr ⟨d,c,q⟩)))
 .obtain⟨q,rfl⟩:=eP.1 h;exact .inl (.inl (.inl (.inl (.inr ⟨d,c,lG.2 (.inl ⟨q,rfl⟩)⟩))))
 .rcases aab g hl h with q | q
  .exact .inl (.inl (.inr q))
  .exact .inl (.inr ⟨l,hl,q⟩)
 .obtain⟨q,rfl⟩:=eP.1 h;exact .inl (.inl (.inr ⟨l,hl,eP.2 ⟨by rw[q];exact λ e=>(by cases e),rfl⟩⟩))
 .obtain⟨q,rfl⟩:=eP.1 h;exact .inr (eP.2 ⟨q.imp Ne.symm Ne.symm,rfl⟩)
open Classical in
noncomputable def jJ:List jE->List jE
 | []=>[]
 | [x]=>[x]
 | x :: y :: r=>if x=y then jJ (y :: r) else x :: jJ (y :: r)
open Classical in
theorem qE:∀ {l:List jE} {p:jE},p∈jJ l ↔ p∈l
 | [],p=>Iff.rfl
 | [x],p=>Iff.rfl
 | x :: y :: r,p=>by
  rw[jJ];split
  .rename_i h;rw[qE,h];simp
  .rw[am,qE,am,am,am]
def ltD (p q:jE):Prop:=p.1<q.1\/p.1=q.1/\p.2.data.toList<q.2.data.toList
theorem ae5 {p q:jE} (h:ltD p q):p≠q:=by
 rintro rfl;rcases h with h | ⟨-,h⟩
 .omega
 .exact absurd h (List.lt_irrefl _)
theorem TI (p q:jE):ltD p q\/p=q\/ltD q p:=by
 obtain⟨k,⟨⟨s⟩⟩⟩:=p;obtain⟨b,⟨⟨a⟩⟩⟩:=q;unfold ltD;rcases Int.lt_trichotomy k b with h | h | h
 .exact .inl (.inl h)
 .subst h;by_cases e:s=a
  .exact .inr (.inl (by rw[e]))
  .by_cases h1:s<a
   .exact .inl (.inr ⟨rfl,h1⟩)
   .by_cases h2:a<s
    .exact .inr (.inr (.inr ⟨rfl,h2⟩))
    .exact absurd (List.le_antisymm h2 h1) e
 .exact .inr (.inr (.inl h))
theorem Jo {p q r:jE} (h:ltD p q) (a:ltD q r):ltD p r:=by
 rcases h with h | ⟨e,h⟩ <;> rcases a with a | ⟨b,a⟩
 .exact .inl (by omega)
 .exact .inl (by omega)
 .exact .inl (by omega)
 .exact .inr ⟨by omega,List.lt_trans h a⟩
open Classical in
theorem uU:∀ {l:List jE},l.Pairwise (λ p q=>¬ ltD q p)->(jJ l).Nodup
 | [],_=>List.nodup_nil
 | [x],_=>by simp[jJ]
 | x :: y :: r,h=>by
  rw[jJ];obtain⟨d,b⟩:=a4.1 h;split
  .exact uU b
  .rename_i a;refine List.nodup_cons.2 ⟨λ c=>?_,uU b⟩;rw[qE] at c;have e:ltD x y:=by
    rcases TI x y with q | q | q
    .exact q
    .exact absurd q a
    .exact absurd q (d y (by simp))
   rcases am.1 c with q | q
   .exact a q
   .exact (a4.1 b).1 x q e
open Classical in
theorem acF {a b:aG} (n:qI (aC a)) (s:qI (aC b)) (f:CW a.lists) (g:CW b.lists) {l i:List jE} (k:l.Perm (rM a b)) (d:i.Perm (rM b a))
  (r:l.Pairwise (λ p q=>¬ ltD q p)) (j:i.Pairwise (λ p q=>¬ ltD q p)):(jJ l).length=(jJ i).length:=by
 have t:=uU r;have u:=uU j;have c:Function.Injective Z5:=λ x y h=>by rw[<- Le x,h,Le]
 have o:((jJ l).map Z5).Nodup:=List.Pairwise.map _ (λ x y h e=>h (c e)) t;have:=(List.perm_ext_iff_of_nodup o u).2 (λ p=>by
  rw[qE,d.mem_iff,av];constructor
  .rintro ⟨q,m,rfl⟩;rw[qE,k.mem_iff] at m;exact aac n f m
  .intro h;exact⟨Z5 p,by rw[qE,k.mem_iff];exact aac s g h,Le p⟩)
 have:=this.length_eq
 rwa [List.length_map] at this
theorem aad {l:List jE}:jJ l = [] ↔ l = []:=by
 rw[ax,ax];simp only[qE]
open Classical in
theorem acG {a b:aG} (j:qI (aC a)) (e:CW a.lists) (k:a.nm=b.nm) (n:a.aA=b.aA) (f:a.lists=b.lists) (g:a.items=b.items):rM a b = []:=by
 have i:aC b=aC a:=by unfold aC;rw[g]
 rw[ax];intro p h;unfold rM nG at h;rw[i,<- f] at h;simp only[ar,aD] at h;rcases h with ((((h | ⟨d,c,h⟩) | ⟨d,c,h⟩) | ⟨l,hl,h⟩) | ⟨l,hl,h⟩) | h
 .exact (eP.1 h).1 rfl
 .rw[lG,j.at_ c] at h;rcases h with ⟨m,-⟩ | ⟨-,⟨q,-⟩ | ⟨q,-⟩ | ⟨q,-⟩ | ⟨q,-⟩ | ⟨q,-⟩⟩
  .exact CV.1 m d c rfl
  .exact q rfl
  .exact q ⟨rfl,rfl,rfl,rfl,rfl,rfl⟩
  .exact q.2.2 rfl
  .exact q ⟨rfl,λ _ _ _=>rfl⟩
  .exact q rfl
 .exact CV.1 (eP.1 h).1 d c rfl
 .exact (eP.1 h).1 (e.find hl)
 .have:=(eP.1 h).1;rw[e.find hl] at this;cases this
 .rcases (eP.1 h).1 with q | q
  .exact q k
  .exact q n
structure adq (N M:List ah):Prop where
 top:rH N M ⟨#[]⟩=rH M N ⟨#[]⟩
 here:∀ d∈N,¬ bG M d.it.nm<0
 par:∀ d∈N,jC N d=jC M (je M (bG M d.it.nm))
 rt:∀ d∈N,rtE d.it (je M (bG M d.it.nm)).it
 an:∀ d∈N,d.it.k=4->(je M (bG M d.it.nm)).it.k=4->d.it.ans.bare=(je M (bG M d.it.nm)).it.ans.bare
 ph:∀ d∈N,phE d.it (je M (bG M d.it.nm)).it
 com:∀ d∈N,rH N M d.it.nm=rH M N d.it.nm
 here':∀ d∈M,¬ bG N d.it.nm<0
open Classical in
theorem aim {a b:aG} (h:rM a b = []):adq (aC a) (aC b)/\(∀ l∈a.lists,eX b.lists l.nm=some l)/\(∀ l∈b.lists,eX a.lists l.nm≠none)/\a.nm=b.nm/\a.aA=b.aA:=by
 rw[ax] at h;unfold rM nG at h;simp only[ar,aD,not_or,not_exists,not_and] at h;have one:∀ d∈aC a,∀ p,p ∉ rJ (aC a) (aC b) d:=λ d c p g=>(h p).1.1.1.1.2 d c g;have e:∀ d∈aC a,¬ bG (aC b) d.it.nm<0:=λ d c j=>one d c _ (lG.2 (.inl ⟨j,rfl⟩));refine⟨⟨?_,e,?_,?_,?_,?_,?_,?_⟩,?_,?_,?_,?_⟩
 .exact al λ q=>(h _).1.1.1.1.1 (eP.2 ⟨q,rfl⟩)
 .exact λ d c=>al λ q=>one d c _ (lG.2 (.inr ⟨e d c,.inl ⟨q,rfl⟩⟩))
 .exact λ d c=>al λ q=>one d c _ (lG.2 (.inr ⟨e d c,.inr (.inl ⟨q,rfl⟩)⟩))
 .exact λ d c i k=>al λ q=>one d c _ (lG.2 (.inr ⟨e d c,.inr (.inr (.inl ⟨⟨i,k,q⟩,rfl⟩))⟩))
 .exact λ d c=>al λ q=>one d c _ (lG.2 (.inr ⟨e d c,.inr (.inr (.inr (.inl ⟨q,rfl⟩)))⟩))
 .exact λ d c=>al λ q=>one d c _ (lG.2 (.inr ⟨e d c,.inr (.inr (.inr (.inr ⟨q,rfl⟩)))⟩))
 .exact λ d c q=>(h _).1.1.1.2 d c (eP.2 ⟨q,rfl⟩)
 .exact λ l f=>al λ q=>(h _).1.1.2 l f (eP.2 ⟨q,rfl⟩)
 .exact λ l f q=>(h _).1.2 l f (eP.2 ⟨q,rfl⟩)
 .exact al λ q=>(h _).2 (eP.2 ⟨.inl q,rfl⟩)
 .exact al λ q=>(h _).2 (eP.2 ⟨.inr q,rfl⟩)
open Classical in
theorem Aw {N M:List ah} (f:qI N) {nm:ByteArray} {i:Int} (e:∀ d∈N,jC N d=nm ↔ d.par=i) (c:∀ d∈N,¬ bG M d.it.nm<0) (b:∀ d∈N,jC N d=jC M (je M (bG M d.it.nm))) :
  rH N M nm=(kP N i).map ItemD.nm:=by
 unfold rH kP;rw[List.map_map];have:N.filter (λ d=>decide (GL N M nm d))=N.filter (λ d=>decide (d.par=i)):=List.filter_congr λ d a=>by
  rw[decide_eq_decide];unfold GL;rw[<- b d a,e d a];exact⟨λ h=>h.2.1,λ h=>⟨by have:=c d a;omega,h,h⟩⟩
 rw[this];rfl
theorem qI.aae {N:List ah} (h:qI N) {j:Nat} (b:j<N.length):∀ d∈N,jC N d=N[j].it.nm ↔ d.par=(j:Int):=by
 intro d c;rcases h.par d c with ⟨q,g⟩ | ⟨i,q,f,e⟩
 .constructor
  .intro a;unfold jC at a;rw[if_neg (by omega)] at a;exact absurd a.symm (h.ne _ (ak b))
  .intro a;omega
 .rw[e,q];constructor
  .intro a;have:=h.num i f;rw[a,h.num j b] at this;exact this.symm
  .intro a;have:i=j:=by omega
   subst this;rfl
theorem qI.TJ {N:List ah} (h:qI N):∀ d∈N,jC N d=⟨#[]⟩ ↔ d.par = -1:=by
 intro d c;rcases h.par d c with ⟨q,b⟩ | ⟨i,q,f,e⟩
 .exact⟨λ _=>b,λ _=>by unfold jC;rw[if_neg (by omega)]⟩
 .constructor
  .intro a;rw[e] at a;exact absurd a (h.ne _ (ak f))
  .intro a;omega
theorem Rw {l l':List gq} (h:l.map (λ r=>{ r with ph:=[]:gq })=l'.map (λ r=>{ r with ph:=[]:gq })) (b:∀ i (h:i<l.length) (b:i<l'.length),l[i].ph=l'[i].ph):l=l':=by
 have f:l.length=l'.length:=by simpa using congrArg aE h
 refine aL f λ i c d=>?_;have e:=congrArg (λ x=>x[i]?) h;simp only[aM,ap c,ap d,Option.map_some,aR] at e;have a:=b i c d;generalize l[i]=x at e a ⊢;generalize l'[i]=y at e a ⊢;cases x;cases y;simp_all
theorem aaf {a b:jS} (h:a.bare=b.bare) (c:∀ i (h:i<a.ch.length) (c:i<b.ch.length),a.ch[i].ph=b.ch[i].ph):a=b:=by
 have e:=Rw (congrArg jS.ch h) c;cases a;cases b;simp only[jS.bare,jS.mk.injEq] at h;dsimp only at e;subst e;simp_all
open Classical in
theorem Jp {N M:List ah} (n:qI N) (f:qI M) (h:adq N M):∀ (k:Nat) (d:ah),d∈N->aq d.it<k->d.it=(je M (bG M d.it.nm)).it
 | 0,_,_,h=>absurd h (Nat.not_lt_zero _)
 | k+1,d,hd,hk=>by
  have D:=h.here d hd;obtain⟨L,p⟩:=qI.mem D;have m:=h.rt d hd;have O:=h.ph d hd;have E:=h.an d hd;have b:=h.com d hd;obtain⟨i,w,u⟩:=ay hd;generalize aa:je M (bG M d.it.nm)=e at *;obtain⟨j,A,t⟩:=ay L;have s:d.it.ans=e.it.ans:=by
   by_cases r:d.it.k=4
   .exact aaf (E r (m.1▸r)) O.2
   .rw[n.bare d hd r,f.bare e L (m.1▸r)]
  have o:∀ x∈M,¬ bG N x.it.nm<0:=h.here';have K:∀ x∈M,jC M x=jC N (je N (bG N x.it.nm)):=λ x v=>by
   obtain⟨U,X⟩:=qI.mem (o x v);have:=h.par _ U;rw[X,f.at_ v] at this;exact this.symm
  have B:=Aw n (M:=M) (n.aae w) h.here h.par;have C:=Aw f (M:=N) (f.aae A) o K;rw[n.kids i w] at B;rw[f.kids j A] at C;rw[u] at B;rw[t,p] at C;rw[B,C] at b;have I:d.it.items=e.it.items:=by
   have T:d.it.items.length=e.it.items.length:=by simpa using congrArg aE b
   refine aL T λ q H P=>?_;have G:=congrArg (λ x=>x[q]?) b;simp only[aM,ap H,ap P,Option.map_some,aR] at G;have v:d.it.items[q]∈kP N i:=by rw[n.kids i w,u];exact ak H
   have hy:e.it.items[q]∈kP M j:=by rw[f.kids j A,t];exact ak P
   obtain⟨x,g,a⟩:=av.1 v;obtain⟨y,l,c⟩:=av.1 hy;have g:=oh g;have l:=oh l;have J:aq x.it<k:=by
    have h3:aq d.it.items[q]<aq d.it.items:=List.sizeOf_lt_of_mem (ak H);have r:aq d.it.items<aq d.it:=by
     generalize d.it=z;cases z;simp[ItemD.items];omega
    have a:x.it=d.it.items[q]:=a;rw[a];omega
   have Q:=Jp n f h k x g J;have a:x.it=d.it.items[q]:=a;have c:y.it=e.it.items[q]:=c;rw[<- a,<- c] at G;rw[G,f.at_ l] at Q;rw[<- a,<- c,Q]
  have F:d.it.ph=e.it.ph:=O.1;obtain⟨W,V,Y,R,S,Z⟩:=m;revert p W V Y R S Z F I s;generalize d.it=x;generalize e.it=y;cases x;cases y;simp only[ItemD.nm,ItemD.k,ItemD.iff,ItemD.sh,ItemD.cnt,ItemD.over,ItemD.cmp,ItemD.ph,ItemD.items,ItemD.ans];rintro rfl rfl rfl rfl rfl rfl rfl rfl rfl rfl;rfl
open Classical in
theorem aah {a b:aG} (w:qI (aC a)) (n:qI (aC b)) (o:kP (aC a) (-1)=a.items) (k:kP (aC b) (-1)=b.items) (I:CW a.lists) (z:CW b.lists) (h:rM a b = []) :
  a.nm=b.nm/\a.aA=b.aA/\a.items=b.items/\∀ l,l∈a.lists ↔ l∈b.lists:=by
 obtain⟨i,r,A,u,v⟩:=aim h;refine⟨u,v,?_,λ l=>⟨λ q=>(qC (r l q)).1,λ q=>?_⟩⟩
 .have C:∀ x∈aC b,jC (aC b) x=jC (aC a) (je (aC a) (bG (aC a) x.it.nm)):=λ x s=>by
   obtain⟨F,G⟩:=qI.mem (i.here' x s);have:=i.par _ F;rw[G,n.at_ s] at this;exact this.symm
  have E:=Aw w (M:=aC b) w.TJ i.here i.par;have H:=Aw n (M:=aC a) n.TJ i.here' C;have c:=i.top;rw[E,H,o,k] at c;have r:a.items.length=b.items.length:=by simpa using congrArg aE c
  refine aL r λ q p t=>?_;have B:=congrArg (λ x=>x[q]?) c;simp only[aM,ap p,ap t,Option.map_some,aR] at B;have s:a.items[q]∈kP (aC a) (-1):=by rw[o];exact ak p
  have J:b.items[q]∈kP (aC b) (-1):=by rw[k];exact ak t
  obtain⟨x,g,d⟩:=av.1 s;obtain⟨y,j,f⟩:=av.1 J;have g:=oh g;have j:=oh j;have D:=Jp w n i _ x g (Nat.lt_succ_self _);have d:x.it=a.items[q]:=d;have f:y.it=b.items[q]:=f;rw[<- d,<- f] at B;rw[B,n.at_ j] at D;rw[<- d,<- f,D]
 .cases e:eX a.lists l.nm with
  | none=>exact absurd e (A l q)
  | some m =>
   obtain⟨p,t⟩:=qC e;have:=z l q m (qC (r m p)).1 t.symm;rw[this];exact p
end Go.Proofs.YtcnagconagpkcaaGreatDoor
