/- Lemmas. -/
import Derived.Test.YtcnagconagpkcaaGreatDoorZ19
open Go.Value renaming int->ao, string->bc, slice->bd, pointer->be, bool->bf
open Go.IntKind renaming i64->bb
open Go.Ending renaming returned->bg
open Go.Lib renaming cut->bh, itoa->bj
open List renaming mem_map->bi, mem_cons->bm, mem_flatMap->bn, map_cons->bq, mem_cons_self->bs, getD_eq_getElem?_getD->bt, mem_or_eq_of_mem_set->bv, map_flatMap->bw, getElem_mem->bx, length_append->bz, mem_cons_of_mem->bB, length_map->bE, map_append->bL, getElem?_set_ne->bN, drop_eq_getElem_cons->bO, drop_length->bR, length_cons->bS, mem_append->bX, append_nil->b0, flatMap_map->b3, pairwise_flatMap->b4, map_map->b5, append_cancel_left->b6, pairwise_cons->b7, mem_filter->b9, eq_nil_of_length_eq_zero->cb, take_length->cc, drop_append_of_le_length->ce, nil_append->cf, not_mem_nil->cg, sum_cons->cj
open Nat renaming le_trans->bk, le_refl->bo, zero_le->br, le_of_eq->ca
open And renaming intro->bp
open Go.ByteArray renaming toList_eq->bA
set_option maxHeartbeats 4000000
set_option maxRecDepth 100000
namespace Go.Proofs.YtcnagconagpkcaaGreatDoor
open Tryz
open Tryz renaming prog->lM
section
theorem BL (w:List UInt8):(∃ a b,(47:UInt8) ∉ a/\w=a ++ 47 :: b/\bh w [47]=(a,b,true))\/((47:UInt8) ∉ w/\bh w [47]=(w,[],false)):=by
 by_cases h:(47:UInt8)∈w
 .obtain⟨a,b,e,c⟩:=List.eq_append_cons_of_mem h;exact .inl ⟨a,b,c,e,by rw[e];exact Vtx.sN b c⟩
 .exact .inr ⟨h,Vtx.yS h⟩
theorem aav {α β:Type} (k:α->β) {l:List α} (h:l.Pairwise (λ a b=>k a≠k b)):∀ a∈l,∀ b∈l,k a=k b->a=b:=by
 induction h with
 | nil=>intro a f;cases f
 | cons h1 _ ih =>
  intro a f b g e;rcases bm.1 f with d | d <;> rcases bm.1 g with c | c
  .rw[d,c]
  .rw[d] at e;exact absurd e (h1 b c)
  .rw[c] at e;exact absurd e.symm (h1 a d)
  .exact ih a d b c e
theorem Jk {w:List UInt8} {L:List aS} {p:List ByteArray} (h:Dx w L=some p):∃ l∈L,∃ o∈l.os,w=l.nm.data.toList ++ 47 :: bj o.code/\p=o.ph:=by
 obtain⟨⟨l,o⟩,d,c⟩:=List.exists_of_findSome?_eq_some h;obtain⟨m,j,d⟩:=bn.1 d;obtain⟨k,i,e⟩:=bi.1 d;injection e with e1 e2;subst e1 e2;dsimp only at c;split at c
 .rename_i g;obtain⟨c1,c2,c3⟩:=g;injection c with c;rcases BL w with ⟨a,b,-,e,f⟩ | ⟨-,f⟩
  .rw[f] at c2 c3;exact⟨_,j,_,i,by rw[e,c2,c3],c.symm⟩
  .rw[f] at c1;cases c1
 .cases c
theorem adw {L:List aS} (r:L.Pairwise (λ a b=>a.nm≠b.nm)) (n:∀ l∈L,aP l.nm.data.toList=true/\l.os.Pairwise (λ a b=>a.code≠b.code)/\∀ o∈l.os,1<=o.code) {l:aS} (h:l∈L) {o:kN} (g:o∈l.os):Dx (l.nm.data.toList ++ 47 :: bj o.code) L=some o.ph:=by
 obtain⟨i,q,m⟩:=n l h;cases hq:Dx (l.nm.data.toList ++ 47 :: bj o.code) L with
 | none =>
  unfold Dx at hq;have:=List.findSome?_eq_none_iff.1 hq (l,o) (bn.2 ⟨l,h,bi.2 ⟨o,g,rfl⟩⟩);rw[Vtx.sN _ (oH i).1,if_pos ⟨rfl,rfl,rfl⟩] at this;cases this
 | some p =>
  obtain⟨k,c,j,d,e,rfl⟩:=Jk hq;have f:=Vtx.sN (bj o.code) (oH i).1;rw[e,Vtx.sN _ (oH (n k c).1).1] at f;injection f with f q2;injection q2 with q2 _;have:=aav (·.nm) r k c l h (qU f);subst this;rw[aav (·.code) q j d o g (Gs (by have:=m j d;omega) (by have:=m o g;omega) q2)]
theorem pR {nm:ByteArray} {s:Slot}:∀ {ch:List dY} {k:Nat},s∈xy nm k ch->∃ i,∃ h:i<ch.length,s=(uq nm (k+i),ch[i].ph)
 | a :: r,k,h=>by
  rw[xy] at h;rcases bm.1 h with e | h
  .exact⟨0,by simp,e⟩
  .obtain⟨i,b,e⟩:=pR h;exact⟨i+1,by simpa using b,by rw[e];simp only[List.getElem_cons_succ];rw[show k+1+i=k+(i+1) by omega]⟩
theorem TV {nm:ByteArray}:∀ {ch:List dY} {k i:Nat} (h:i<ch.length),(uq nm (k+i),ch[i].ph)∈xy nm k ch
 | a :: r,k,0,h=>by rw[xy];exact bs ..
 | a :: r,k,i+1,h=>by
  rw[xy];have:=TV (nm:=nm) (ch:=r) (k:=k+1) (i:=i) (by simpa using h);rw[show k+1+i=k+(i+1) by omega] at this;exact bB _ this
theorem TW:∀ {ch:List dY} {k i:Nat} (h:i<ch.length),BJ (qg (k+i)) k ch=some ch[i].ph
 | a :: r,k,0,h=>by rw[Nat.add_zero,BJ,if_pos rfl];rfl
 | a :: r,k,i+1,h=>by
  rw[BJ,if_neg (λ e=>by have:=O4 e;omega)];have:=TW (ch:=r) (k:=k+1) (i:=i) (by simpa using h)
  rwa [show k+1+i=k+(i+1) by omega] at this
theorem Jl {b:List UInt8} {p:List ByteArray}:∀ {ch:List dY} {k:Nat},BJ b k ch=some p->∃ i,∃ h:i<ch.length,b=qg (k+i)/\p=ch[i].ph
 | a :: r,k,h=>by
  rw[BJ] at h;split at h
  .rename_i e;injection h with h;exact⟨0,by simp,e,h.symm⟩
  .obtain⟨i,c,d,f⟩:=Jl h;exact⟨i+1,by simpa using c,by rw[d,show k+1+i=k+(i+1) by omega],f⟩
theorem RH (b:ByteArray):(⟨b.data.toList.toArray⟩:ByteArray)=b:=by cases b;simp
section
variable {f:aI}
theorem BM (b:aau f) {s:Slot} (a:s∈eP f.lists (ai f)):(findF f.lists (ai f) s.1).1=s.2/\(s.2≠[]->(findF f.lists (ai f) s.1).2=true):=by
 unfold eP at a;rcases bX.1 a with a | a
 .obtain⟨l,h,a⟩:=bn.1 a;obtain⟨o,n,rfl⟩:=bi.1 a;unfold findF;rw[if_pos (show (xx l.nm o.code).data.toList.head?=some 58 from rfl),show (xx l.nm o.code).data.toList.drop 1=l.nm.data.toList ++ 47 :: bj o.code from rfl,
   adw b.lp (λ l h=>⟨(b.ln l h).1,(b.ln l h).2.1,λ o n=>((b.ln l h).2.2 o n).1⟩) h n]
  exact⟨rfl,λ _=>rfl⟩
 .obtain⟨d,p,a⟩:=bn.1 a;obtain⟨i,q,rfl⟩:=List.getElem_of_mem p;have g:=oH (b.sh.nm _ p);have m:=ads b.sh q;have k:=iD q;obtain⟨-,v,-⟩:=b.np _ p;generalize (ai f)[i]=d at a g m k v;have u:∀ t:List UInt8,(d.it.nm.data.toList ++ t).head?≠some 58:=λ t e=>by
   cases hq:d.it.nm.data.toList with
   | nil=>exact g.2.2 hq
   | cons c r=>rw[hq] at e g;injection e with e;exact g.2.1 (by rw[<- e];exact bs ..)
  unfold Ky at a;rcases bm.1 a with rfl | a
  .unfold findF;rw[if_neg (by have:=u [];rwa [b0] at this),Vtx.yS g.1];dsimp only;rw[RH,m,if_neg (by omega),if_pos rfl,k];exact⟨rfl,v⟩
  .obtain⟨j,w,rfl⟩:=pR a;unfold findF;dsimp only;rw[show (uq d.it.nm (0+j)).data.toList=d.it.nm.data.toList ++ 47 :: qg (0+j) from rfl,if_neg (u _),Vtx.sN _ g.1];dsimp only;rw[RH,m,if_neg (by omega),if_neg (by decide),k,TW w];exact⟨rfl,λ _=>rfl⟩
theorem Wx {w:ByteArray} (g:(findF f.lists (ai f) w).2=true) (h:(findF f.lists (ai f) w).1≠[]):(w,(findF f.lists (ai f) w).1)∈eP f.lists (ai f):=by
 unfold findF at h g ⊢;unfold eP;by_cases O9:w.data.toList.head?=some 58
 .rw[if_pos O9] at h g ⊢;cases hq:Dx (w.data.toList.drop 1) f.lists with
  | none=>rw[hq] at g;cases g
  | some p =>
   obtain⟨l,t,o,s,e,rfl⟩:=Jk hq;refine List.mem_append_left _ (bn.2 ⟨l,t,bi.2 ⟨o,s,?_⟩⟩);have:xx l.nm o.code=w:=by
    refine qU ?_;show 58 :: (l.nm.data.toList ++ 47 :: bj o.code)=_;rw[<- e];cases hw:w.data.toList with
    | nil=>rw[hw] at O9;cases O9
    | cons c r=>rw[hw] at O9;injection O9 with O9;rw[O9];rfl
   rw[this];rfl
 rw[if_neg O9] at h g ⊢;by_cases hn:fA (ai f) ⟨(bh w.data.toList [47]).1.toArray⟩<0
 .rw[if_pos hn] at g;cases g
 rw[if_neg hn] at h g ⊢;obtain⟨m,j⟩:=adt.mem hn;refine List.mem_append_right _ (bn.2 ⟨_,m,?_⟩);generalize jY (ai f) (fA (ai f) ⟨(bh w.data.toList [47]).1.toArray⟩)=d at m j h g ⊢;unfold Ky;rcases BL w.data.toList with ⟨a,b,-,e,k⟩ | ⟨-,k⟩
 .rw[k] at j h g ⊢;dsimp only at j h g ⊢;rw[if_neg (by decide)] at h g ⊢;cases hq:BJ b 0 d.it.ans.ch with
  | none=>rw[hq] at g;cases g
  | some p =>
   obtain⟨i,n,q,rfl⟩:=Jl hq;refine bB _ ?_;have:w=uq d.it.nm (0+i):=by
    refine qU ?_;show _=d.it.nm.data.toList ++ 47 :: qg (0+i);rw[e,j,q]
   rw[this];exact TV n
 .rw[k] at j h g ⊢;dsimp only at j h g ⊢;rw[RH] at j;rw[if_pos rfl,j];exact bs ..
end
abbrev Ic:=ByteArray->ByteArray
def oI (pl:Nat) (s:ByteArray) (p:List ByteArray):List ByteArray:=if p = [] then [] else if pl=p.length then p ++ [s] else p.set pl s
section
variable (pl:Nat) (t:Ic)
def Kz (nm:ByteArray) (o:kN):kN:={ o with ph:=oI pl (t (xx nm o.code)) o.ph }
def aaw (l:aS):aS:={ l with os:=l.os.map (Kz pl t l.nm) }
def Dy (nm:ByteArray):Nat->List dY->List dY
 | _,[]=>[]
 | k,r :: q=>{ r with ph:=oI pl (t (uq nm k)) r.ph } :: Dy nm (k+1) q
def aob (nm:ByteArray) (a:lN):lN:={ a with ch:=Dy pl t nm 0 a.ch }
mutual
def KD:ItemD->ItemD
 | .mk k nm iff ph items sh cnt over ans cmp=>.mk k nm iff (oI pl (t nm) ph) (lq items) sh cnt over (aob pl t nm ans) cmp
def lq:List ItemD->List ItemD
 | []=>[]
 | a :: r=>KD a :: lq r
end
def Pg (d:au):au:={ d with it:=KD pl t d.it }
mutual
theorem adx:∀ (f:ItemD) (a:List au) (b e d:Int) (c:List ByteArray),(KD pl t f).add (a.map (Pg pl t)) b e d c=(f.add a b e d c).map (Pg pl t)
 | .mk k nm iff ph items sh cnt over ans cmp,a,b,e,d,c=>by
  rw[KD,ItemD.add,ItemD.add,bE];have:=Gt items (a ++ [⟨.mk k nm iff ph items sh cnt over ans cmp,b,e,d,c⟩]) a.length 0 (d+1) (if k=3 then c ++ [nm] else c);rw[<- this,bL];rfl
theorem Gt:∀ (l:List ItemD) (b:List au) (c d e:Int) (f:List ByteArray),iZ (lq pl t l) (b.map (Pg pl t)) c d e f=(iZ l b c d e f).map (Pg pl t)
 | [],b,_,_,_,_=>by rw[lq,iZ,iZ]
 | a :: r,b,c,d,e,f=>by
  rw[lq,iZ,iZ,bE];split
  .rfl
  .rw[adx a,Gt r]
end
def KU (s:Slot):Slot:=(s.1,oI pl (t s.1) s.2)
theorem Ph (nm:ByteArray):∀ (ch:List dY) (k:Nat),xy nm k (Dy pl t nm k ch)=(xy nm k ch).map (KU pl t)
 | [],_=>rfl
 | a :: r,k=>by rw[Dy,xy,xy,bq,Ph nm r];rfl
theorem Wy (L:List aS) (N:List au):eP (L.map (aaw pl t)) (N.map (Pg pl t))=(eP L N).map (KU pl t):=by
 unfold eP;rw[bL,b3,b3,bw,bw];congr 1
 .congr 1
  funext l
  unfold adu aaw;simp[Function.comp_def,Kz,KU]
 .congr 1
  funext d
  obtain⟨⟨k,nm,iff,ph,items,sh,cnt,over,ans,cmp⟩,a,b,c,e⟩:=d;show (nm,oI pl (t nm) ph) :: xy nm 0 (Dy pl t nm 0 ans.ch)=_;rw[Ph];rfl
end
def xA (ag:List ByteArray) (nm:ByteArray):Nat:=ag.findIdx (λ x=>decide (x=nm))
def iY (f:aI) (nm:ByteArray) (t:Ic):aI:={ f with ag:=if xA f.ag nm<f.ag.length then f.ag else f.ag ++ [nm],lists:=f.lists.map (aaw (xA f.ag nm) t),items:=lq (xA f.ag nm) t f.items }
theorem BP (f:aI) (nm:ByteArray) (t:Ic):ai (iY f nm t)=(ai f).map (Pg (xA f.ag nm) t):=Gt _ _ f.items [] (-1) 0 1 []
def oJ (l:List jO):Ic:=λ w=>match l.find? (λ e=>decide (e.1=w)) with | some e=>e.2 | none=>⟨#[]⟩
def RI (i:Nat) (S:List Slot):List jO:=(S.filter (λ s=>!s.2.isEmpty)).map (λ s=>(s.1,s.2.getD i ⟨#[]⟩))
theorem KY {f:aI} (b:aau f) (i:Nat):∀ S:List Slot,(∀ s∈S,s∈eP f.lists (ai f))->iq f.lists (ai f) i (S.map (·.1))=RI i S
 | [],_=>rfl
 | s :: r,h=>by
  have d:=(BM b (h s (bs ..))).1;rw[bq,iq,d,KY b i r (λ x c=>h x (bB _ c))];unfold RI;rw[List.filter_cons];cases hq:s.2 with
  | nil=>rw[if_pos rfl,if_neg (by simp)]
  | cons a q=>rw[if_neg (by simp),if_pos (by simp),bq,hq]
theorem aax {pl:Nat} {s:ByteArray} {p:List ByteArray}:(oI pl s p).isEmpty=p.isEmpty:=by
 unfold oI;by_cases h:p = []
 .rw[if_pos h,h]
 .rw[if_neg h];have:p.isEmpty=false:=by cases p <;> simp_all
  rw[this];split
  .simp
  .rw[List.isEmpty_eq_false_iff];simp[h]
theorem Pj {f:aI} (m:aau f):((eP f.lists (ai f)).map (·.1)).Nodup:=by
 have P:(ai f).Pairwise (λ a b=>a.it.nm≠b.it.nm):=by
  rw[List.pairwise_iff_getElem];intro i j C Q I;exact m.sh.one j i Q I
 unfold eP;rw[bL,List.nodup_append];refine⟨?_,?_,?_⟩
 .rw[bw];refine b4.2 ⟨λ l E=>?_,?_⟩
  .unfold adu;rw[b5];refine List.pairwise_map.2 ((m.ln l E).2.1.imp_of_mem λ {a b} B v q e=>q ?_);have e:=congrArg (λ x=>x.data.toList) e;have e:(58:UInt8) :: (l.nm.data.toList ++ 47 :: bj a.code)=58 :: (l.nm.data.toList ++ 47 :: bj b.code):=e;injection e with _ e;have e:=b6 e;injection e with _ e;have S:=((m.ln l E).2.2 a B).1;have R:=((m.ln l E).2.2 b v).1;exact Gs (by omega) (by omega) e
  .refine m.lp.imp_of_mem λ {a b} B v q x F y H e=>q ?_;obtain⟨J,u,rfl⟩:=bi.1 F;obtain⟨K,p,rfl⟩:=bi.1 H;obtain⟨o,-,rfl⟩:=bi.1 u;obtain⟨O,-,rfl⟩:=bi.1 p;have e:=congrArg (λ x=>x.data.toList) e;have e:(58:UInt8) :: (a.nm.data.toList ++ 47 :: bj o.code)=58 :: (b.nm.data.toList ++ 47 :: bj O.code):=e;injection e with _ e;have D:=Vtx.sN (bj o.code) (oH (m.ln a B).1).1;rw[e,Vtx.sN _ (oH (m.ln b v).1).1] at D;injection D with D _;exact qU D.symm
 .rw[bw];refine b4.2 ⟨λ d A=>?_,?_⟩
  .have n:=oH (m.sh.nm d A);unfold Ky;rw[bq];refine b7.2 ⟨λ w z e=>?_,?_⟩
   .obtain⟨s,h,rfl⟩:=bi.1 z;obtain⟨i,C,rfl⟩:=pR h;have e:=congrArg (λ x=>x.data.toList) e;have e:d.it.nm.data.toList=d.it.nm.data.toList ++ 47 :: qg (0+i):=e;refine n.1 ?_;rw[e];simp
   .have:∀ (ch:List dY) (k:Nat),((xy d.it.nm k ch).map (·.1)).Pairwise (· ≠ ·):=by
     intro ch
     induction ch with
     | nil=>intro k;exact List.Pairwise.nil
     | cons a r ih =>
      intro k;rw[xy,bq];refine b7.2 ⟨λ w z e=>?_,ih (k+1)⟩;obtain⟨s,h,rfl⟩:=bi.1 z;obtain⟨i,C,rfl⟩:=pR h;have e:=congrArg (λ x=>x.data.toList) e;have e:d.it.nm.data.toList ++ 47 :: qg k=d.it.nm.data.toList ++ 47 :: qg (k+1+i):=e;have e:=b6 e;injection e with _ e;have:=O4 e;omega
    exact this _ _
  .refine P.imp_of_mem λ {a b} B v q x F y H e=>q ?_;have key:∀ d∈ai f,∀ s∈Ky d.it,(bh s.1.data.toList [47]).1=d.it.nm.data.toList:=by
    intro d A s h;have n:=oH (m.sh.nm d A);unfold Ky at h;rcases bm.1 h with rfl | h
    .rw[Vtx.yS n.1]
    .obtain⟨i,C,rfl⟩:=pR h;rw[show (uq d.it.nm (0+i)).data.toList=d.it.nm.data.toList ++ 47 :: qg (0+i) from rfl,Vtx.sN _ n.1]
   obtain⟨J,u,rfl⟩:=bi.1 F;obtain⟨K,p,rfl⟩:=bi.1 H;have M:=key a B J u;rw[e,key b v K p] at M;exact qU M.symm
 .intro w z w' G e;obtain⟨s,h,rfl⟩:=bi.1 z;obtain⟨L,g,rfl⟩:=bi.1 G;obtain⟨l,E,h⟩:=bn.1 h;obtain⟨o,T,rfl⟩:=bi.1 h;obtain⟨d,A,g⟩:=bn.1 g;have n:=oH (m.sh.nm d A);have:∃ t,L.1.data.toList=d.it.nm.data.toList ++ t:=by
   unfold Ky at g;rcases bm.1 g with rfl | g
   .exact⟨[],by simp⟩
   .obtain⟨i,C,rfl⟩:=pR g;exact⟨_,rfl⟩
  obtain⟨q,N⟩:=this;have e:=congrArg (λ x=>x.data.toList) e;have e:(58:UInt8) :: (l.nm.data.toList ++ 47 :: bj o.code)=L.1.data.toList:=e;rw[N] at e;cases hm:d.it.nm.data.toList with
  | nil=>exact n.2.2 hm
  | cons c r=>rw[hm] at e n;injection e with e _;exact n.2.1 (by rw[e];exact bs ..)
theorem Jm {f:aI} (b:aau f) {s:Slot} (a:s∈eP f.lists (ai f)):s.2 = []\/s.2.length=f.ag.length:=by
 unfold eP at a;rcases bX.1 a with a | a
 .obtain⟨l,j,a⟩:=bn.1 a;obtain⟨o,c,rfl⟩:=bi.1 a;exact ((b.ln l j).2.2 o c).2.2
 .obtain⟨d,g,a⟩:=bn.1 a;obtain⟨h,-,k⟩:=b.np d g;unfold Ky at a;rcases bm.1 a with rfl | a
  .exact h
  .obtain⟨i,e,rfl⟩:=pR a;exact k _ (bx e)
theorem ady {f:aI} {nm:ByteArray} {l:List jO} (h:aX f=0) (r:(l.map (·.1)).Nodup) (E:∀ e∈l,(findF f.lists (ai f) e.1).2=true/\(findF f.lists (ai f) e.1).1≠[])
  (H:∀ w∈bJ f.lists (ai f),(findF f.lists (ai f) w).1≠[]->∃ e∈l,e.1=w) (B:aX (iY f nm (oJ l))=0) :
  (iY f nm (oJ l)).ag.findIdx (λ x=>decide (x=nm))=xA f.ag nm/\xA f.ag nm<(iY f nm (oJ l)).ag.length /\
  ∀ i<(iY f nm (oJ l)).ag.length,if i=xA f.ag nm then (iq (iY f nm (oJ l)).lists (ai (iY f nm (oJ l))) i (bJ (iY f nm (oJ l)).lists (ai (iY f nm (oJ l))))).length=l.length/\∀ e∈iq (iY f nm (oJ l)).lists (ai (iY f nm (oJ l))) i (bJ (iY f nm (oJ l)).lists (ai (iY f nm (oJ l)))),e∈l
   else i<f.ag.length/\iq (iY f nm (oJ l)).lists (ai (iY f nm (oJ l))) i (bJ (iY f nm (oJ l)).lists (ai (iY f nm (oJ l))))=iq f.lists (ai f) i (bJ f.lists (ai f)):=by
 have o:=O8 h;have q:=O8 B;have F:eP (iY f nm (oJ l)).lists (ai (iY f nm (oJ l)))=(eP f.lists (ai f)).map (KU (xA f.ag nm) (oJ l)):=by rw[BP];exact Wy _ _ _ _
 have t:xA f.ag nm<=f.ag.length:=List.findIdx_le_length;have c:(iY f nm (oJ l)).ag=if xA f.ag nm<f.ag.length then f.ag else f.ag ++ [nm]:=rfl
 refine⟨?_,?_,λ i j=>?_⟩
 .rw[c];by_cases hm:xA f.ag nm<f.ag.length
  .rw[if_pos hm];rfl
  .rw[if_neg hm,List.findIdx_append,if_neg (by unfold xA at hm;exact hm)];have:f.ag.findIdx (λ x=>decide (x=nm))=f.ag.length:=by unfold xA at hm t;omega
   unfold xA;rw[this];simp
 .rw[c];by_cases hm:xA f.ag nm<f.ag.length
  .rw[if_pos hm];exact hm
  .rw[if_neg hm];simp;omega
 have C:iq (iY f nm (oJ l)).lists (ai (iY f nm (oJ l))) i (bJ (iY f nm (oJ l)).lists (ai (iY f nm (oJ l))))=RI i ((eP f.lists (ai f)).map (KU (xA f.ag nm) (oJ l))):=by
  unfold bJ;rw[KY q i _ (λ _ h=>h),F]
 have A:iq f.lists (ai f) i (bJ f.lists (ai f))=RI i (eP f.lists (ai f)):=by
  unfold bJ;rw[KY o i _ (λ _ h=>h)]
 rw[C,A];have D:(((eP f.lists (ai f)).map (KU (xA f.ag nm) (oJ l))).filter (λ s=>!s.2.isEmpty))=((eP f.lists (ai f)).filter (λ s=>!s.2.isEmpty)).map (KU (xA f.ag nm) (oJ l)):=by
  rw[List.filter_map];congr 2
  funext s
  simp only[Function.comp_apply,KU,aax]
 have y:RI i ((eP f.lists (ai f)).map (KU (xA f.ag nm) (oJ l)))=((eP f.lists (ai f)).filter (λ s=>!s.2.isEmpty)).map (λ s=>(s.1,(oI (xA f.ag nm) (oJ l s.1) s.2).getD i ⟨#[]⟩)):=by
  unfold RI;rw[D,b5];rfl
 have g:∀ s∈(eP f.lists (ai f)).filter (λ s=>!s.2.isEmpty),s∈eP f.lists (ai f)/\s.2≠[]/\s.2.length=f.ag.length:=by
  intro s a;obtain⟨m,b⟩:=b9.1 a;have b:s.2≠[]:=by intro e;rw[e] at b;simp at b
  exact⟨m,b,(Jm o m).resolve_left b⟩
 by_cases hip:i=xA f.ag nm
 .rw[if_pos hip,y];have n:∀ s∈(eP f.lists (ai f)).filter (λ s=>!s.2.isEmpty),(oI (xA f.ag nm) (oJ l s.1) s.2).getD i ⟨#[]⟩=oJ l s.1:=by
   intro s a;obtain⟨-,b,v⟩:=g s a;unfold oI;rw[if_neg b,hip];split
   .rename_i e;rw[e];simp
   .rename_i e;rw[v] at e;rw[bt,List.getElem?_set_self (by omega)];rfl
  have d:∀ s∈(eP f.lists (ai f)).filter (λ s=>!s.2.isEmpty),(s.1,oJ l s.1)∈l:=by
   intro s a;obtain⟨m,b,-⟩:=g s a;obtain⟨e,k,z⟩:=H s.1 (bi.2 ⟨s,m,rfl⟩) (by rw[(BM o m).1];exact b);unfold oJ;cases hq:l.find? (λ e=>decide (e.1=s.1)) with
   | none=>exact absurd (List.find?_eq_none.1 hq e k) (by simp[z])
   | some e' =>
    have:=List.find?_some hq;simp only[decide_eq_true_eq] at this;dsimp only;rw[<- this];exact List.mem_of_find?_eq_some hq
  refine⟨?_,λ e k=>?_⟩
  .rw[bE];have G:(((eP f.lists (ai f)).filter (λ s=>!s.2.isEmpty)).map (·.1)).Perm (l.map (·.1)):=by
    refine (List.perm_ext_iff_of_nodup ?_ r).2 λ w=>?_
    .have:=Pj o;exact this.sublist (List.filter_sublist.map _)
    .constructor
     .intro u;obtain⟨s,a,rfl⟩:=bi.1 u;exact bi.2 ⟨_,d s a,rfl⟩
     .intro u;obtain⟨e,k,rfl⟩:=bi.1 u;obtain⟨b1,b2⟩:=E e k;refine bi.2 ⟨_,b9.2 ⟨Wx b1 b2,?_⟩,rfl⟩;cases hq:(findF f.lists (ai f) e.1).1 with
      | nil=>exact absurd hq b2
      | cons _ _=>rfl
   have:=G.length_eq;simpa using this
  .obtain⟨s,a,rfl⟩:=bi.1 k;rw[n s a];exact d s a
 .rw[if_neg hip];have p:i<f.ag.length:=by
   rw[c] at j;by_cases hm:xA f.ag nm<f.ag.length
   .rw[if_pos hm] at j;exact j
   .rw[if_neg hm,bz] at j;simp at j;omega
  refine⟨p,?_⟩;rw[y];unfold RI;refine List.map_congr_left λ s a=>?_;obtain⟨-,b,v⟩:=g s a;unfold oI;rw[if_neg b];split
  .rw[bt,List.getElem?_append_left (by omega),<- bt]
  .rw[bt,bN (λ e=>hip e.symm),<- bt]
end
section
open Go.RowKit
structure aC (g:Nat) (w w':World):Prop where
 os:w'.os=w.os
 tape:w'.tape=w.tape
 output:w'.output=w.output
 size:w'.heap.size=w.heap.size
 far:∀ k,k≠g->w'.heap[k]?=w.heap[k]?
theorem aC.refl (g:Nat) (w:World):aC g w w:=⟨rfl,rfl,rfl,rfl,λ _ _=>rfl⟩
theorem aC.set {g:Nat} {w w':World} (h:aC g w w') (i:Nat) (u:Value):aC g w (w'.setCell ⟨g,i,none⟩ u):=
 ⟨h.os,h.tape,h.output,by simp[World.setCell,h.size],λ k a=>(Below.heap_setCell w' ⟨g,i,none⟩ u k a).trans (h.far k a)⟩
theorem aC.below {g b:Nat} {w w':World} (h:aC g w w') (c:b<=g):Below b w w':=⟨h.os,h.tape,h.output,ca h.size.symm,λ k a=>h.far k (by omega)⟩
theorem aC.blk {g k:Nat} {w w':World} {T:TypeId} {cs:Array Value} (h:aC g w w') (a:ah w k T cs) (b:k≠g):ah w' k T cs:=(h.far k b).trans a
theorem aC.many {g:Nat} {w:World}:∀ (vs:List Value) (o:Nat) {w':World},aC g w w'->aC g w (w'.setCells g o vs)
 | [],_,_,h=>h
 | v :: r,o,_,h=>aC.many r (o+1) (h.set o v)
theorem ah.mid {g:Nat} {T:TypeId} {post:List Value}:∀ (vs old a:List Value) {w:World},ah w g T (a ++ old ++ post).toArray->old.length=vs.length->ah (w.setCells g a.length vs) g T (a ++ vs ++ post).toArray
 | [],old,a,w,h,hl=>by
  obtain rfl:old = []:=cb hl;exact h
 | v :: r,x :: old,a,w,h,hl=>by
  have c:=h.bP a.length v;have e:(a ++ (x :: old) ++ post).toArray.setIfInBounds a.length v=((a ++ [v]) ++ old ++ post).toArray:=by simp
  rw[e] at c;have b:=ah.mid r old (a ++ [v]) c (by simpa using hl);rw[bz] at b;have d:(a ++ [v]) ++ r ++ post=a ++ (v :: r) ++ post:=by simp
  rw[d] at b;exact b
 | v :: r,[],a,w,h,hl=>by simp at hl
theorem WA {w:World} {g:Nat} {T:TypeId} {cs:Array Value} (h:ah w g T cs) (o n:Nat) (b:o+n<=cs.size):w.there g o n:=λ j a=>⟨by rw[h.cell,Array.getElem?_eq_getElem (by omega)];rfl,h.frozen _⟩
theorem D8 {w:World} {g o:Nat} {T a:TypeId} {cs:Array Value} {vs:List Value} (h:ah w g T cs) (d:o+vs.length<=cs.size) (b:(lM.info? a).map (·.size)=some vs.length) (c:∀ v∈vs,v.oneCell'=true) :
  (Hr a (be (some ⟨g,o,none⟩)) (.agg vs.toArray)).run lM w = .ok () (w.setCells g o vs):=
 run_storeAt_mid w g o a vs.toArray (WA h o _ (by simpa using d)) (by simpa using b) (by rw[<- Array.all_toList];exact List.all_eq_true.2 c)
attribute [local go_sem ↓] Go.wp_at_zero Go.wp_at_succ
theorem Pm (s:ByteArray) (w:World) (g:s.size<=2000000) (c:Mx w) :
  Calls lM 60 #[bc s,bc ⟨#[47]⟩] w λ e w'=>(∃ a b:ByteArray,e = bg (.tuple #[bc a,bc b,bf (bh s.data.toList [47]).2.2])/\a.data.toList=(bh s.data.toList [47]).1/\b.data.toList=(bh s.data.toList [47]).2.1)/\DD w w':=by
 obtain⟨m,c⟩:=c;exact (Tryz.strings_Cut s ⟨#[47]⟩ m w (by omega) c).mono λ _ _ ⟨d,k,f⟩=>⟨⟨_,_,d,rfl,rfl⟩,f▸(Below.refl _ _).drewN k⟩
def Xm (fl:Bool) (a b:List UInt8) (nm:ByteArray):List kN->Option (List ByteArray)
 | []=>none
 | o :: r=>if (fl && decide (nm.data.toList=a) && decide (bj o.code=b))=true then some o.ph else Xm fl a b nm r
def foL (fl:Bool) (a b:List UInt8):List aS->Option (List ByteArray)
 | []=>none
 | l :: r=>match Xm fl a b l.nm l.os with
  | some p=>some p
  | none=>foL fl a b r
theorem TY (w:List UInt8):∀ L:List aS,Dx w L=foL (bh w [47]).2.2 (bh w [47]).1 (bh w [47]).2.1 L
 | []=>rfl
 | l :: r=>by
  have a:=TY w r;unfold Dx at a ⊢;rw[List.flatMap_cons,List.findSome?_append,a,foL];have:∀ os:List kN,(os.map (λ o=>(l,o))).findSome? (λ p:aS × kN=>if (bh w [47]).2.2=true/\p.1.nm.data.toList=(bh w [47]).1/\bj p.2.code=(bh w [47]).2.1 then some p.2.ph else none)=Xm (bh w [47]).2.2 (bh w [47]).1 (bh w [47]).2.1 l.nm os:=by
   intro os
   induction os with
   | nil=>rfl
   | cons o t a =>
    rw[bq,List.findSome?_cons,Xm,a];dsimp only;by_cases h:(bh w [47]).2.2=true/\l.nm.data.toList=(bh w [47]).1/\bj o.code=(bh w [47]).2.1
    .rw[if_pos h,if_pos (by simp[h])]
    .rw[if_neg h,if_neg (by simpa [and_assoc] using h)]
  rw[this];cases Xm (bh w [47]).2.2 (bh w [47]).1 (bh w [47]).2.1 l.nm l.os <;> rfl
theorem aay {c:Bool} {a b:List UInt8} {nm:ByteArray} {l:List kN} {k:Nat} (h:k<l.length):Xm c a b nm (l.drop k)=if (c && decide (nm.data.toList=a) && decide (bj l[k].code=b))=true then some l[k].ph else Xm c a b nm (l.drop (k+1)):=by rw[bO h];rfl
theorem aaz {c:Bool} {a b:List UInt8} {l:List aS} {k:Nat} (h:k<l.length):foL c a b (l.drop k)=match Xm c a b l[k].nm l[k].os with | some p=>some p | none=>foL c a b (l.drop (k+1)):=by rw[bO h];rfl
def TZ (B0:Nat) (r:List ByteArray × Bool) (e:Ending) (w':World):Prop:=∃ A c n,e = bg (.tuple #[.agg #[bd A r.1.length c,ao bb n],bf r.2])/\kz w' B0 A c r.1
theorem KZ (w:World) (B:Nat):kz w B none 0 []:=⟨Reads.none_,bo _,br _,λ s h=>by cases h⟩
theorem aoc {c:Func} {s t:Tmp} {tmps:Array Value} {w4:World} {g:Nat} {a b v:Value} {Q:Ending->World->Prop} (j:c.results = #[.cell s 85,.tmp t]) (i:tmps[s]?.getD undef = be (some ⟨g,0,none⟩)) (e:tmps[t]?.getD undef=v)
  (f:w4.cell? ⟨g,0,none⟩=some a) (d:w4.cell? ⟨g,1,none⟩=some b) (h:Q (bg (.tuple #[.agg #[a,b],v])) w4):bodyPost lM c Q Exit.ret { tmps:=tmps,defers:=[] } w4:=
 bodyPost_ret (v:=.tuple #[.agg #[a,b],v]) (by simp[results,j,go_sem,i,e,f,d]) rfl h
theorem Gu {d:Func} {s t:Tmp} {tmps:Array Value} {w w1:World} {g:Nat} {b a f c1 v:Value} {Q:Ending->World->Prop} (l:d.results = #[.cell s 85,.tmp t]) (i:tmps[s]?.getD undef = be (some ⟨g,0,none⟩)) (e:tmps[t]?.getD undef=v)
  (B:ah w1 g 85 #[f,c1]) (j:Below g w w1) (h:∀ w',Below g w w'->(∀ k,k<g->w'.heap[k]?=w1.heap[k]?)->Q (bg (.tuple #[.agg #[b,a],v])) w'):bodyPost lM d Q Exit.ret { tmps:=tmps,defers:=[] } ((w1.setCell ⟨g,0,none⟩ b).setCell ⟨g,1,none⟩ a):=by
 have B2:=(B.bP 0 b).bP 1 a;have c:aC g w1 ((w1.setCell ⟨g,0,none⟩ b).setCell ⟨g,1,none⟩ a):=((aC.refl _ _).set 0 b).set 1 a;exact aoc l i e (by rw[B2.cell];rfl) (by rw[B2.cell];rfl) (h _ (j.trans (c.below (bo _))) λ k m=>c.far k (by omega))
theorem xe {w w':World} {B:Nat} {A:Option Addr} {c:Nat} {l:List ByteArray} (h:kz w B A c l) (b:∀ k,k<B->w'.heap[k]?=w.heap[k]?):kz w' B A c l:=⟨h.1.keep λ p a=>World.cell?_of_block (b _ a),h.2⟩
def adz (f:aI):Prop:=∀ l∈f.lists,l.nm.size<=1000/\∀ o∈l.os,0<=o.code/\o.code<=999
theorem Pn {w:World} {B0 gb m1 m2 m3:Nat} {x:jS} {f:aI} {N:List au} {K:aY} (h:aT w B0 gb m1 m2 m3 x f N K) (ac:adz f) {s:ByteArray} (h1:1<=s.size) (hs:s.size<=2000000) (G:Tab w) (av:Mx w) :
  Calls lM 59 #[be (some ⟨gb,0,none⟩),bc s] w λ e w'=>TZ B0 (opR (Dx (s.data.toList.drop 1) f.lists)) e w'/\DD w w':=by
 obtain⟨W0,ag,B,BS⟩:=box w 85 #[bd none 0 0,ao bb 0];have KC:=qh (Pm (s.extract 1 s.size) W0 (by rw[ByteArray.size_extract];omega) (av.below B));obtain⟨R,hR⟩:=af (Dx (s.data.toList.drop 1) f.lists);rw[hR];obtain⟨RR,M⟩:∃ z:List ByteArray × Bool,opR R=z:=⟨_,rfl⟩;rw[M];have aq:=qh M;clear M;rw[TY,<- vO] at hR;obtain⟨Z,aa⟩:=af ((bh (s.extract 1 s.size).data.toList [47]).2.2);obtain⟨Q,ae⟩:=af ((bh (s.extract 1 s.size).data.toList [47]).1);obtain⟨T,al⟩:=af ((bh (s.extract 1 s.size).data.toList [47]).2.1);rw[aa,ae,al] at KC hR;have HR:=qh hR;have O:=qh h.form.ls;have n:=qh h.le;have HT:=qh G;have I:=qh ac;have a5:=h.le;have c3:W0.cell? ⟨gb,3,none⟩=some (bd x.AS f.lists.length x.cs):=(h.blk.below B h.blk.lt).cell 3;have a9:=h.blk.lt;have TF:=qh BS;clear hR aa ae al h ac G av BS hs;go_enter func59,ntmps59;go_upto_region 1 with (fail);rw[<- ag];clear ag;obtain⟨L,hL⟩:=af (f.lists);obtain⟨AS,Xh⟩:=af (x.AS);rw[hL] at HR;rw[hL,Xh] at c3 O;clear Xh;have I:=qh (show ∀ l∈L,l.nm.size<=1000/\∀ o∈l.os,0<=o.code/\o.code<=999 from hL▸I.o);clear hL;go_upto_region 3 with (go_at_call 60;(with_reducible refine KC.o.mono ?_);rintro e1 w1 ⟨⟨a,b,rfl,ha,hb⟩,C⟩;have an:=B.trans (C.mono B.size);have V:=TF.o.below C TF.o.lt;have a4:=Below.cell_of C c3;clear c3);have HA:=qh ha;have qY:=qh hb;have ak:=qh V;have a8:=B.size;have a7:=C.size;have a6:L.length<=9223372036854775807:=by have:=O.o.1;unfold maxLen at this;exact this
 have ar:=V.lt;clear ha hb V TF KC;go_loopw [26] (λ i wr=>∃ k:Nat,i = ao bb k/\k<=L.length/\Hid (foL Z Q T (L.drop k)=R)/\DD w1 wr) (λ i _=>L.length+1 - (intOf i).toNat)
 case atStart=>exact⟨0,rfl,br _,HR,Below.refl _ _⟩
 case round =>
  obtain⟨k,rfl,hk,H,F⟩:=hrel;obtain⟨wo,rfl⟩:=aG (wr);have a3:=F.size;have r:=an.trans (F.mono (by omega));have B2:=ak.o.below F ar;obtain⟨z0,z1⟩:=ah.c2 B2;have y0:wo.frozen? ⟨w.heap.size,0,none⟩=false:=B2.frozen 0;have y1:wo.frozen? ⟨w.heap.size,1,none⟩=false:=B2.frozen 1;have a1:=qh B2;clear B2;by_cases hlt:k<L.length
  case neg =>
   obtain rfl:k=L.length:=by omega
   have HE:=qh (show RR=([],false) from by
    have h:R=none:=H.o.symm.trans (by rw[bR];rfl);rw[<- aq.o,h];rfl)
   go_wp2;refine Gu rfl rfl rfl a1.o r λ w' S y=>⟨?_,S⟩;rw[HE.o];exact⟨none,0,0,rfl,KZ _ _⟩
  have H:=qh ((aaz hlt).symm.trans H.o);obtain⟨ad,ci,rfl,P,⟨A,c,rfl,D,ax,a0⟩,g⟩:=aF.at_ (aF.keep (λ _ _ h=>h.keep (r.mono n.o)) O.o (r.mono n.o)) hlt;have MV:=qh (I.o _ (bx hlt)).2;obtain⟨d,hd⟩:=af (L[k]);rw[hd] at g D ax a0 H MV;have p0:wo.cell? (ad.add (k*2))=some (bc d.nm):=g 0 _ rfl;have p1:wo.cell? ⟨(ad.add (k*2)).block,(ad.add (k*2)).off+1,none⟩=some (bd A d.os.length c):=g 1 _ rfl;obtain⟨W,hW,oM,BW⟩:=box wo 92 #[bc d.nm,bd A d.os.length c];have q1:=BW.cell 1;have aV:=qh hlt;have ba:d.os.length<=9223372036854775807:=by have:=D.1;unfold maxLen at this;exact this
  have aL:=qh D;have fJ:=qh BW;have aZ:=BW.lt;have am:=oM.size;have aM:=F.trans (oM.mono a3);clear g hd P D z0 z1 y0 y1 BW;go_upto_region 6 with (fail);rw[<- hW];clear p0 p1 hW q1;go_loopw [33] (λ i wr=>∃ j:Nat,i = ao bb j/\j<=d.os.length/\Hid (Xm Z Q T d.nm (d.os.drop j)=Xm Z Q T d.nm d.os)/\DD W wr) (λ i _=>d.os.length+1 - (intOf i).toNat)
  case atStart=>exact⟨0,rfl,br _,qh rfl,Below.refl _ _⟩
  case round =>
   obtain⟨j,rfl,hj,m,u⟩:=hrel;have aE:=u.size;have E:=aM.trans (u.mono (by omega));by_cases hjl:j<d.os.length
   case neg =>
    obtain rfl:j=d.os.length:=by omega
    have m:=qh (show Xm Z Q T d.nm d.os=none from m.o.symm.trans (by rw[bR];rfl));have H:=qh (show foL Z Q T (L.drop (k+1))=R from by have:=H.o;rw[m.o] at this;exact this);go_wp2;go_roundw
    case rel=>exact⟨k+1,by go_num,aV.o,H,E⟩
    case measure =>
     have:=aV.o;simp[intOf];omega
   have m:=qh ((aay hjl).symm.trans m.o);have J:=an.trans (E.mono (by omega));obtain⟨X,ci,rfl,P,⟨A2,c2,rfl,oO⟩,g⟩:=aF.at_ (aF.keep (λ _ _ h=>h.keep ((oM.trans (u.mono am)).mono (bk n.o r.size))) aL.o ((oM.trans (u.mono am)).mono (bk n.o r.size))) hjl;have a2:=MV.o _ (bx hjl);obtain⟨o,ho⟩:=af (d.os[j]);rw[ho] at g oO m a2;have p0:wr.cell? (X.add (j*4))=some (ao bb o.code):=g 0 _ rfl;have p1:wr.cell? ⟨(X.add (j*4)).block,(X.add (j*4)).off+1,none⟩=some (bd A2 o.ph.length c2):=g 1 _ rfl;have p2:wr.cell? ⟨(X.add (j*4)).block,(X.add (j*4)).off+2,none⟩=some (bf o.al):=g 2 _ rfl;have p3:wr.cell? ⟨(X.add (j*4)).block,(X.add (j*4)).off+3,none⟩=some (bf o.la):=g 3 _ rfl;obtain⟨W2,ab,qf,Y⟩:=box wr 95 #[ao bb o.code,bd A2 o.ph.length c2,bf o.al,bf o.la];have r0:=Y.cell 0;have v:=u.trans (qf.mono aE);have qn:W2.cell? ⟨wo.heap.size,0,none⟩=some (bc d.nm):=(fJ.o.below v aZ).cell 0;have D6:=qh hjl;have p:=J.trans (qf.mono J.size);have KI:=qh (kC o.code W2 (by omega) (by omega) (aB HT.o p));have Jc:=qh (show kz W2 B0 A2 c2 o.ph from oO.keep (qf.mono J.size |>.mono n.o));have ap:=qh Y;have LX:=qh (ak.o.below ((E.trans (qf.mono E.size))) ar);clear g ho P oO Y;go_upto_region 8 with (fail);rw[<- ab];clear p0 p1 p2 p3 ab;obtain⟨x1,aR⟩:=af ((d.nm.toList == a.toList));have aw:=qh (show decide (d.nm.data.toList=Q)=x1 by
    rw[<- HA.o,<- aR,bA,bA];exact Bool.eq_iff_iff.2 (by simp))
   rw[aw.o] at m;clear aw;cases Z
   case false =>
    have m:=qh ((if_neg (by simp)).symm.trans m.o);go_wp2_with fail;go_roundw
    case rel=>exact⟨j+1,by go_num,D6.o,m,v⟩
    case measure =>
     have:=D6.o;simp[intOf];omega
   cases x1
   case false =>
    have m:=qh ((if_neg (by simp)).symm.trans m.o);go_wp2_with fail;go_roundw
    case rel=>exact⟨j+1,by go_num,D6.o,m,v⟩
    case measure =>
     have:=D6.o;simp[intOf];omega
   obtain⟨x2,U⟩:=af (decide (bj o.code=T));rw[U] at m;have KI:=qh (show Calls lM 28 #[ao bb o.code] W2 λ e w'=>(∃ t:ByteArray,e = bg (bc t)/\(t.toList == b.toList)=x2)/\DD W2 w' from KI.o.mono λ _ _ ⟨⟨t,he,ht⟩,hb⟩=>⟨⟨t,he,by
    rw[<- U,bA,bA,ht,qY.o];exact Bool.eq_iff_iff.2 (by simp)⟩,hb⟩)
   clear U;cases x2
   case false =>
    have m:=qh ((if_neg (by simp)).symm.trans m.o);go_wp2_with (go_at_call 28;(with_reducible refine KI.o.mono ?_);rintro e3 w3 ⟨⟨t,rfl,ht⟩,q⟩;have ay:=v.trans (q.mono v.size));go_roundw
    case rel=>exact⟨j+1,by go_num,D6.o,m,ay⟩
    case measure =>
     have:=D6.o;simp[intOf];omega
   have HE:=qh (show RR=(o.ph,true) from by
    have h2:some o.ph=Xm true Q T d.nm d.os:=(if_pos (by simp)).symm.trans m.o;have h3:=H.o;rw[<- h2] at h3;rw[<- aq.o,<- h3];rfl)
   go_upto_region 9 with (go_at_call 28;(with_reducible refine KI.o.mono ?_);rintro e3 w3 ⟨⟨t,rfl,ht⟩,q⟩;have r1:=(ap.o.below q ap.o.lt).cell 1;have QG:=LX.o.below q LX.o.lt;have z0:=QG.cell 0;have z1:=QG.cell 1;have y0:=QG.frozen 0;have y1:=QG.frozen 1;have gK:=p.trans (q.mono p.size);have CZ:=qh (Jc.o.keep (q.mono (bk n.o p.size))));have aD:=qh QG;clear QG;go_wp2;refine Gu rfl rfl rfl aD.o gK λ w' S y=>⟨?_,S⟩;rw[HE.o];exact⟨A2,c2,-1,rfl,xe CZ.o λ k hk=>y k (by have:=n.o;omega)⟩
theorem WB {a:List UInt8} {l:List dY} {k:Nat} (h:k<l.length):BJ a k (l.drop k)=if a=qg k then some l[k].ph else BJ a (k+1) (l.drop (k+1)):=by rw[bO h];rfl
theorem aC.stay {g:Nat} {w w':World} {p:Nat->Prop} (h:aC g w w') (a:∀ k,p k->k≠g):aK p w w':=⟨ca h.size.symm,λ k b _=>h.far k (a k b)⟩
theorem aC.own {g B size n:Nat} {w w':World} {e:TypeId} {v:Value} {xs:List Value} (h:aC g w w') (c:w.ownsRow B e size v n xs) (j:g<B):w'.ownsRow B e size v n xs:=by
 refine⟨c.1,c.2.imp id ?_⟩;rintro ⟨b,a,cur,f,d,i,e3⟩;exact⟨b,a,cur,f,d,(h.far b (by omega)).trans i,e3⟩
theorem ags {d:Func} {s:Tmp} {tmps:Array Value} {a:World} {g:Nat} {a0 a1 a2 a3 j c1 c2 c3:Value} {Q:Ending->World->Prop} (o:d.results = #[.cell s 65]) (n:tmps[s]?.getD undef = be (some ⟨g,0,none⟩)) (B:ah a g 65 #[j,c1,c2,c3]) (h:∀ W,aC g a W->Q (bg (.agg #[a0,a1,a2,a3])) W) :
  bodyPost lM d Q Exit.ret { tmps:=tmps,defers:=[] } ((((a.setCell ⟨g,0,none⟩ a0).setCell ⟨g,1,none⟩ a1).setCell ⟨g,2,none⟩ a2).setCell ⟨g,3,none⟩ a3):=by
 obtain⟨W,e,b,c⟩:∃ W,W=((((a.setCell ⟨g,0,none⟩ a0).setCell ⟨g,1,none⟩ a1).setCell ⟨g,2,none⟩ a2).setCell ⟨g,3,none⟩ a3)/\ah W g 65 #[a0,a1,a2,a3]/\aC g a W:=⟨_,rfl,((((B.bP 0 a0).bP 1 a1).bP 2 a2).bP 3 a3),((((aC.refl g a).set 0 a0).set 1 a1).set 2 a2).set 3 a3⟩;have f:=h W c;rw[<- e];clear e B c h;have i:W.cell? ⟨g,0,none⟩=some a0:=b.cell 0;have l:W.cell? ⟨g,1,none⟩=some a1:=b.cell 1;have k:W.cell? ⟨g,2,none⟩=some a2:=b.cell 2;have m:W.cell? ⟨g,3,none⟩=some a3:=b.cell 3;exact bodyPost_ret (v:=.agg #[a0,a1,a2,a3]) (by simp[results,o,go_sem,n,i,l,k,m]) rfl f
theorem ac9 {d:Func} {s:Tmp} {tmps:Array Value} {b:World} {g:Nat} {a0 a1 a2 a3 a4 a5 a6 a7 n c1 c2 c3 c4 c5 k t:Value} {Q:Ending->World->Prop} (w:d.results = #[.cell s 67]) (r:tmps[s]?.getD undef = be (some ⟨g,0,none⟩)) (B:ah b g 67 #[n,c1,c2,c3,c4,c5,k,t]) (h:∀ W,aC g b W->Q (bg (.agg #[a0,a1,a2,a3,a4,a5,a6,a7])) W) :
  bodyPost prog d Q Exit.ret { tmps:=tmps,defers:=[] } ((((((((b.setCell ⟨g,0,none⟩ a0).setCell ⟨g,1,none⟩ a1).setCell ⟨g,2,none⟩ a2).setCell ⟨g,3,none⟩ a3).setCell ⟨g,4,none⟩ a4).setCell ⟨g,5,none⟩ a5).setCell ⟨g,6,none⟩ a6).setCell ⟨g,7,none⟩ a7):=by
 obtain⟨W,e,a,c⟩:∃ W,W=((((((((b.setCell ⟨g,0,none⟩ a0).setCell ⟨g,1,none⟩ a1).setCell ⟨g,2,none⟩ a2).setCell ⟨g,3,none⟩ a3).setCell ⟨g,4,none⟩ a4).setCell ⟨g,5,none⟩ a5).setCell ⟨g,6,none⟩ a6).setCell ⟨g,7,none⟩ a7)/\ah W g 67 #[a0,a1,a2,a3,a4,a5,a6,a7]/\aC g b W:=⟨_,rfl,((((((((B.bP 0 a0).bP 1 a1).bP 2 a2).bP 3 a3).bP 4 a4).bP 5 a5).bP 6 a6).bP 7 a7),((((((((aC.refl g b).set 0 a0).set 1 a1).set 2 a2).set 3 a3).set 4 a4).set 5 a5).set 6 a6).set 7 a7⟩;have f:=h W c;rw[<- e];clear e B c h;have l:W.cell? ⟨g,0,none⟩=some a0:=a.cell 0;have p:W.cell? ⟨g,1,none⟩=some a1:=a.cell 1;have o:W.cell? ⟨g,2,none⟩=some a2:=a.cell 2;have q:W.cell? ⟨g,3,none⟩=some a3:=a.cell 3;have j:W.cell? ⟨g,4,none⟩=some a4:=a.cell 4;have m:W.cell? ⟨g,5,none⟩=some a5:=a.cell 5;have u:W.cell? ⟨g,6,none⟩=some a6:=a.cell 6;have i:W.cell? ⟨g,7,none⟩=some a7:=a.cell 7;exact bodyPost_ret (v:=.agg #[a0,a1,a2,a3,a4,a5,a6,a7]) (by simp[results,w,go_sem,r,l,p,o,q,j,m,u,i]) rfl f
theorem z8 {w:World} {g:Nat} {T:TypeId} {b j a e d f i c:Value} (h:ah w g T #[b,j,a,e,d,f,i,c]):w.cell? ⟨g,0,none⟩=some b/\w.frozen? ⟨g,0,none⟩=false/\w.cell? ⟨g,1,none⟩=some j/\w.frozen? ⟨g,1,none⟩=false/\w.cell? ⟨g,2,none⟩=some a/\w.frozen? ⟨g,2,none⟩=false/\w.cell? ⟨g,3,none⟩=some e/\w.frozen? ⟨g,3,none⟩=false/\w.cell? ⟨g,4,none⟩=some d/\w.frozen? ⟨g,4,none⟩=false/\w.cell? ⟨g,5,none⟩=some f/\w.frozen? ⟨g,5,none⟩=false/\w.cell? ⟨g,6,none⟩=some i/\w.frozen? ⟨g,6,none⟩=false/\w.cell? ⟨g,7,none⟩=some c/\w.frozen? ⟨g,7,none⟩=false:=⟨h.cell 0,h.frozen 0,h.cell 1,h.frozen 1,h.cell 2,h.frozen 2,h.cell 3,h.frozen 3,h.cell 4,h.frozen 4,h.cell 5,h.frozen 5,h.cell 6,h.frozen 6,h.cell 7,h.frozen 7⟩
theorem Ua (l:List Int) (A:Option Addr) (c B:Nat) (w:World) (m:Reads w B 1 A l.length (bK bb l)) (q:l.length<=1099511627776) :
  Calls lM 80 #[bd A l.length c] w λ e w'=>∃ v,e = bg v/\w'.ownsRow w.heap.size 3 1 v l.length (bK bb l)/\DD w w':=by
 rcases Nat.eq_zero_or_pos l.length with h | h
 .have k:=cb h;subst k;cases A with
  | none=>exact (Tryz.slices_Clone_int_nil 0 c w).mono λ _ _ ⟨d,n⟩=>⟨_,d,World.ownsRow_nil _ _ _ _,n▸Below.refl _ _⟩
  | some a=>exact (Tryz.slices_Clone_int_zero a c w).mono λ _ _ ⟨v,d,f,_,g⟩=>⟨v,d,f,g⟩
 .obtain⟨b,o,rfl,-,p⟩:=m.plain h;refine (Tryz.slices_Clone_int b o l.length c l w (bo _) (by omega) (λ j i=>by
   refine p j _ ?_;unfold bK;rw[List.getElem?_map,List.getElem?_eq_getElem i];simp[List.getD,i])).mono λ _ _ ⟨v,d,f,_,g⟩=>⟨v,d,?_,g⟩
  rw[cc] at f;exact f
theorem RJ (v:Val) (A:Option Addr) (c B:Nat) (w:World) (E:Reads w B 1 A v.l.length (bK bb v.l)) (P:B<=w.heap.size) (R:v.l.length<=1048576) :
  Calls lM 129 #[.agg (BF v A c)] w λ e w'=>(∃ A' c',e = bg (.agg (BF v A' c'))/\w'.ownsRow (w.heap.size+2) 3 1 (bd A' v.l.length c') v.l.length (bK bb v.l))/\DD w w':=by
 obtain⟨I,b,h,B1⟩:=box w 65 (BF v A c);obtain⟨C,f,i,B2⟩:=box I 65 #[ao bb 0,ao bb 0,bc ⟨#[]⟩,bd none 0 0];have u:I.heap.size=w.heap.size+1:=by rw[b];simp
 have t:C.heap.size=w.heap.size+2:=by rw[f];simp[u]
 have d:=h.trans (i.mono h.size);have O:=qh (Ua v.l A c B C (E.below (d.mono P)) (by omega));have B1:=B1.below i B1.lt;rw[u] at B2;obtain⟨m,u0,q,u1,o,u2,p,u3⟩:=s4 B1;have r:=qh (bp B1 B2);clear E B1 B2 h i;go_enter func129,ntmps129;go_upto_region 1 with (fail);rw[<- b,<- f];clear b f u;go_upto_region 2 with (go_at_call 80;(with_reducible refine O.o.mono ?_);rintro e3 F ⟨x,rfl,g,a⟩;obtain⟨A',c',rfl⟩:=dX g;have B1:=r.o.1.below a r.o.1.lt;have B2:=r.o.2.below a r.o.2.lt;have l:=qh (bp B1 B2);clear m u0 q u1 o u2 p u3;obtain⟨m,u0,q,u1,o,u2,p,u3⟩:=s4 B1;obtain⟨y,J,H,z,L,D,K,M⟩:=s4 B2);have k:=d.trans (a.mono d.size);have Q:=qh g;have N:=a.size;clear g a m u0 q u1 o u2 p u3 y J H z L D K M B1 B2;obtain⟨W4,n⟩:=aG (F.setCell ⟨w.heap.size,3,none⟩ (bd A' v.l.length c'));have j:aC w.heap.size F W4:=n▸(aC.refl _ _).set 3 _;have B1:ah W4 w.heap.size 65 (BF v A' c'):=n▸l.o.1.bP 3 _;have B2:=j.blk l.o.2 (by omega);obtain⟨m,u0,q,u1,o,u2,p,u3⟩:=s4 B1;obtain⟨y,J,H,z,L,D,K,M⟩:=s4 B2;have s:=qh B2;rw[<- n];clear n B1 B2;go_wp2;refine ags rfl rfl s.o λ W G=>⟨⟨A',c',rfl,t▸G.own (j.own Q.o (by omega)) (by omega)⟩,(k.trans (j.below (bo _))).trans (G.below (by omega))⟩
mutual
def Ex.bl:Ex->Nat
 | .mk _ _ _ v ar=>v.l.length+2+yD ar
def yD:List Ex->Nat
 | []=>0
 | a :: r=>a.bl+yD r
end
theorem aaA (e:Ex):e.bl=e.v.l.length+2+yD e.ar:=by cases e;rw[Ex.bl];rfl
theorem La {a:Ex}:∀ {l:List Ex},a∈l->a.bl<=yD l
 | b :: r,h=>by
  rw[yD];rcases bm.1 h with e | e
  .rw[e];omega
  .have:=La e;omega
theorem Ub:∀ l:List Ex,l.length<=yD l
 | []=>br _
 | a :: r=>by rw[yD,bS,aaA];have:=Ub r;omega
theorem yE {w:World} {B n c size:Nat} {A:Option Addr} {e:TypeId} {xs:List Value} (h:w.ownsRow B e size (bd A n c) n xs):ik w (λ b=>B<=b) w.heap.size size A n xs:=by
 refine⟨Reads.fB h,λ g ad e=>?_⟩;subst e;rcases h.2 with ⟨a,-⟩ | ⟨i,d,cur,a,f,-⟩
 .injection a with a;cases a
 .injection a with a;injection a with a;subst a;exact f
theorem ik.impl {w:World} {p q:Nat->Prop} {B size n:Nat} {A:Option Addr} {xs:List Value} (h:ik w p B size A n xs) (a:∀ k,p k->q k):ik w q B size A n xs:=⟨h.r,λ b ad e=>a _ (h.l b ad e)⟩
def adA (w:World) (b:Nat) (A:Option Addr) (l:List Ex):Prop:=∃ cs,ik w (λ k=>b<=k) w.heap.size 8 A l.length cs/\∀ i (h:i<l.length),bY w (λ k=>b<=k) w.heap.size l[i] ((cs.drop (i*8)).take 8)
def aaB (e:Ex):Prop:=∀ (w:World) (B:Nat) (cs:List Value),bC w B e cs->B<=w.heap.size->e.bl<=1048576->Calls lM 81 #[.agg cs.toArray] w λ en w'=>(∃ A1 c1 A2 c2,en = bg (.agg (aA e A1 c1 A2 c2).toArray)/\bY w' (λ b=>w.heap.size<=b) w'.heap.size e (aA e A1 c1 A2 c2))/\DD w w'
def aaC (l:List Ex):Prop:=∀ (w:World) (B:Nat) (A:Option Addr) (c:Nat),aF bC 8 w B A l->B<=w.heap.size->yD l<=1048576->Calls lM 79 #[bd A l.length c] w λ en w'=>(∃ A' c',en = bg (bd A' l.length c')/\l.length<=c'/\adA w' w.heap.size A' l)/\DD w w'
theorem Po {e:Ex} (u:aaC e.ar):aaB e:=by
 intro w B cs hE F R;rw[aaA] at R;obtain⟨hn,hs,N,U,hx,hr,I⟩:=hE;rename_i A c A2 c2 S;obtain⟨Z,y,x,B1⟩:=box w 67 (Ag e A c A2 e.ar.length c2);obtain⟨Y,v,z,B2⟩:=box Z 67 #[ao bb 0,ao bb 0,bc ⟨#[]⟩,ao bb 0,ao bb 0,bc ⟨#[]⟩,bd none 0 0,bd none 0 0];have M:Z.heap.size=w.heap.size+1:=by rw[y];simp
 have aa:Y.heap.size=w.heap.size+2:=by rw[v];simp[M]
 have l:=x.trans (z.mono x.size);have KV:=qh (RJ e.v A c B Y (hx.below (l.mono F)) (bk F l.size) (by omega));have HR:=qh (show ∀ w',DD w w'->aF bC 8 w' B A2 e.ar from λ w' hq=>⟨U,S,hr.below (hq.mono F),λ i h=>(I i h).keep (hq.mono F)⟩);have Q:=qh u;have HL:=qh (bp hn (bp hs (bp N U)));have B1:=B1.below z B1.lt;rw[M] at B2;obtain⟨o,u0,q,u1,p,u2,m,u3,n,u4,t,u5,r,u6,s,u7⟩:=z8 B1;have H:=qh (bp B1 B2);clear hx hr I B1 B2 x z u hn hs N U;change Calls _ _ #[.agg (Ag e A c A2 e.ar.length c2)] _ _;go_enter func81,ntmps81;go_upto_region 1 with (fail);rw[<- y,<- v];clear y v M;go_upto_region 2 with (go_at_call 129;(with_reducible refine KV.o.mono ?_);rintro e3 w3 ⟨⟨A3,c3,rfl,C⟩,d⟩;have B1:=H.o.1.below d H.o.1.lt;have B2:=H.o.2.below d H.o.2.lt;have E:=qh (bp B1 B2);clear o u0 q u1 p u2 m u3 n u4 t u5 r u6 s u7;obtain⟨o,u0,q,u1,p,u2,m,u3,n,u4,t,u5,r,u6,s,u7⟩:=z8 B1);have D:=l.trans (d.mono l.size);have HO:=qh C;have ab:=d.size;clear C d o u0 q u1 p u2 m u3 n u4 t u5 r u6 s u7 B1 B2;obtain⟨W4,qX,g,B1⟩:∃ W,W=(((w3.setCell ⟨w.heap.size,3,none⟩ (ao bb e.v.k)).setCell ⟨w.heap.size,4,none⟩ (ao bb e.v.n)).setCell ⟨w.heap.size,5,none⟩ (bc e.v.s)).setCell ⟨w.heap.size,6,none⟩ (bd A3 e.v.l.length c3)/\aC w.heap.size w3 W/\ah W w.heap.size 67 (Ag e A3 c3 A2 e.ar.length c2):=⟨_,rfl,((((aC.refl _ _).set 3 _).set 4 _).set 5 _).set 6 _,(((E.o.1.bP 3 _).bP 4 _).bP 5 _).bP 6 _⟩;have B2:=g.blk E.o.2 (by omega);have j:=qh (bp B1 B2);have K:=D.trans (g.below (bo _));have ag:=g.size;have sF:=qh (g.own HO.o (by omega));have KA:=qh (Q.o W4 B A2 c2 (HR.o _ K) (bk F K.size) (by omega));obtain⟨o,u0,q,u1,p,u2,m,u3,n,u4,t,u5,r,u6,s,u7⟩:=z8 B1;rw[<- qX];clear qX B1 B2 g;go_upto_region 3 with (go_at_call 79;(with_reducible refine KA.o.mono ?_);rintro e5 O ⟨⟨A5,c5,rfl,ak,G⟩,a⟩;have B1:=j.o.1.below a j.o.1.lt;have B2:=j.o.2.below a j.o.2.lt;have wW:=qh (bp B1 B2);clear o u0 q u1 p u2 m u3 n u4 t u5 r u6 s u7;obtain⟨o,u0,q,u1,p,u2,m,u3,n,u4,t,u5,r,u6,s,u7⟩:=z8 B1);have uk:=K.trans (a.mono K.size);have EO:=qh (aQ sF.o a);have L:=qh G;have ac:=a.size;clear G a o u0 q u1 p u2 m u3 n u4 t u5 r u6 s u7 B1 B2;obtain⟨W6,X,f,B1⟩:∃ W,W=O.setCell ⟨w.heap.size,7,none⟩ (bd A5 e.ar.length c5)/\aC w.heap.size O W/\ah W w.heap.size 67 (Ag e A3 c3 A5 e.ar.length c5):=⟨_,rfl,(aC.refl _ _).set 7 _,wW.o.1.bP 7 _⟩;have B2:=f.blk wW.o.2 (by omega);have T:=qh B2;obtain⟨o,u0,q,u1,p,u2,m,u3,n,u4,t,u5,r,u6,s,u7⟩:=z8 B1;obtain⟨r0,t0,r1,t1,r2,t2,r3,t3,r4,t4,r5,t5,r6,t6,r7,t7⟩:=z8 B2;rw[<- X];clear X B1 B2;go_wp2;refine ac9 rfl rfl T.o λ W J=>?_;have ad:=J.size;have ae:=f.size;refine⟨⟨A3,c3,A5,c5,rfl,?_⟩,(uk.trans (f.below (bo _))).trans (J.below (by omega))⟩;obtain⟨h1,h2,h3,h4⟩:=HL.o;obtain⟨al,r5,i5⟩:=L.o;have V:aK (λ b=>W4.heap.size<=b) O W:=⟨by omega,λ k P N=>(J.far k (by omega)).trans (f.far k (by omega))⟩;exact bY.mk h1 h2 h3 h4 ((yE (J.own (f.own EO.o (by omega)) (by omega))).impl (λ k P=>by omega)) (((r5.keep V).up (by omega)).impl (λ k P=>by omega)) (λ i I=>((((i5 i I).keep V).up (by omega)).imp (λ k P _=>by omega)))
def BQ (B:Nat) (v:Value) (b:Nat):Prop:=B<=b/\v.ownBlock≠some b
def ExS (B:Nat) (w:World) (v:Value) (P:List Ex):Prop:=∃ cs,w.ownsRow B 67 8 v P.length cs/\∀ i (h:i<P.length),bY w (BQ B v) w.heap.size P[i] ((cs.drop (i*8)).take 8)
theorem ExS.later {B:Nat} {w w':World} {v:Value} {P:List Ex} (h:ExS B w v P) (a:DD w w'):ExS B w' v P:=by
 obtain⟨cs,d,c⟩:=h;exact⟨cs,aQ d a,λ i b=>((c i b).keep (aK.of a)).up a.size⟩
theorem ExS.push {B:Nat} {w w':World} {v d:Value} {P:List Ex} {e:Ex} {cs ds:List Value} (n:w.ownsRow B 67 8 v P.length cs) (m:∀ i (h:i<P.length),bY w (BQ B v) w.heap.size P[i] ((cs.drop (i*8)).take 8)) (p:bY w (BQ B v) w.heap.size e ds) (a:ds.length=8)
  (o:w'.ownsRow B 67 8 d (P.length+1) (cs ++ ds)) (j:w.grownBy w' v.ownBlock) (f:d.ownBlock=v.ownBlock\/d.ownBlock=some w.heap.size):ExS B w' d (P ++ [e]):=by
 have s:cs.length=P.length*8:=n.1;have c:∀ {x:Ex} {xs:List Value},bY w (BQ B v) w.heap.size x xs->bY w' (BQ B d) w'.heap.size x xs:=λ r=>(((r.imp (q:=λ b=>B<=b/\v.ownBlock≠some b/\b<w.heap.size) (λ k a t=>⟨a.1,a.2,t⟩)).keep (aK.grown j (λ k a e=>a.2.1 e.symm))).up j.size).imp (λ k a _=>⟨a.1,by
  rcases f with e | e
  .rw[e];exact a.2.1
  .rw[e];intro g;injection g with g;omega⟩)
 refine⟨cs ++ ds,by rw[bz];exact o,λ i l=>?_⟩;rw[bz,List.length_singleton] at l;by_cases hlt:i<P.length
 .rw[List.getElem_append_left hlt,ce (by omega),List.take_append_of_le_length (by rw[List.length_drop];omega)];exact c (m i hlt)
 .obtain rfl:i=P.length:=by omega
  rw[<- s,ce (by omega),bR,cf,List.take_of_length_le (by omega)];simpa using c p
theorem agt:(lM.info? 67).map (λ i=>(i.zero,i.size,i.bytes))=some (some (.agg #[.int .i64 0,.int .i64 0,.string ⟨#[]⟩,.int .i64 0,.int .i64 0,.string ⟨#[]⟩,.slice none 0 0,.slice none 0 0]),8,112):=by kernel_rfl
theorem zI {l:List Ex} (o:∀ e∈l,aaB e):aaC l:=by
 intro w B A c hL P ak;obtain⟨j0,ab,X,Z,T⟩:=info_parts agt;have al:=Ub l;have HL:=qh hL;have HR:=qh (show ∀ e∈l,aaB e/\e.bl<=1048576 from λ e G=>⟨o e G,by have:=La G;omega⟩);clear hL o;go_enter func79,ntmps79;go_wp2;go_loopw [8,3] (λ i v wr=>∃ k:Nat,i = ao bb k/\k<=l.length/\Hid (ExS w.heap.size wr v (l.take k))/\Hid (DD w wr)) (λ i _ _=>l.length+1 - (intOf i).toNat)
 case atStart=>exact⟨0,rfl,br _,qh ⟨[],World.ownsRow_nil _ _ _ _,λ i h=>by cases h⟩,qh (Below.refl _ _)⟩
 case round =>
  obtain⟨k,rfl,hk,HS,HB⟩:=hrel;have L:=HB.o;have hs:=L.size;obtain⟨y,a,f⟩:=HS.o;have m:(l.take k).length=k:=by rw[List.length_take];omega
  rw[m] at a;obtain⟨Q,R,rfl⟩:=dX a;by_cases hlt:k<l.length
  case neg =>
   obtain rfl:k=l.length:=by omega
   have W:=qh (bp a f);clear a f m;go_wp2;go_ret;obtain⟨a,f⟩:=W.o;rw[cc] at f;exact⟨⟨Q,R,rfl,vM a,y,yE a,λ i U=>(f i U).imp (λ q N _=>N.1)⟩,L⟩
  obtain⟨ad,ci,rfl,Y,r,j⟩:=aF.at_ (aF.keep (λ _ _ h=>h.keep (L.mono P)) HL.o (L.mono P)) hlt;have jr:=qh (show l.take (k+1)=l.take k ++ [l[k]] from List.take_succ_eq_append_getElem hlt);have s:=qh (HR.o _ (bx hlt));obtain⟨e,G⟩:=af (l[k]);rw[G] at r jr s;have qV:=qh r;have aV:=qh hlt;obtain⟨-,-,-,-,-,-,-⟩:=r;rename_i A3 c3 A4 c4 ag;obtain⟨f0,f1,f2,f3,f4,f5,f6,f7⟩:=e8 j;obtain⟨n,F,d,B1⟩:=box wr 67 (Ag e A3 c3 A4 e.ar.length c4);have t:=L.trans (d.mono hs);have KC:=qh (show Calls lM 81 #[.agg (Ag e A3 c3 A4 e.ar.length c4)] n λ en w'=>(∃ A1 c1 A2 c2,en = bg (.agg (Ag e A1 c1 A2 e.ar.length c2))/\bY w' (λ b=>n.heap.size<=b) w'.heap.size e (aA e A1 c1 A2 c2))/\DD n w' from s.o.1 n B _ (qV.o.keep (d.mono (bk P hs))) (bk P t.size) s.o.2);have OV:=aQ a d;have W:=qh (show ∀ w',DD n w'->∀ i (h:i<(l.take k).length),bY w' (BQ w.heap.size (bd Q k R)) w'.heap.size (l.take k)[i] ((y.drop (i*8)).take 8) from λ w' N i U=>((f i U).keep (aK.of (d.trans (N.mono d.size)))).up (d.trans (N.mono d.size)).size);clear j G Y a f;go_upto_region 5 with (fail);rw[<- F];clear F f0 f1 f2 f3 f4 f5 f6 f7;obtain⟨f0,f1,f2,f3,f4,f5,f6,f7⟩:=b8 B1;have V:=t.size;have M:∀ g,(Value.slice Q k R).ownBlock=some g->w.heap.size<=g/\g<n.heap.size:=λ g hg=>OV.lt g hg;go_wp2_with (first
   | (go_at_call 81;(with_reducible refine KC.o.mono ?_);rintro e2 C ⟨⟨A5,c5,I,J,rfl,K⟩,x⟩;have Jv:=qh (aQ OV x);have p:=az C (.cells (Ag e A5 c5 I e.ar.length J) 67 (0,0));have PV:=qh K;have ac:=x.size;have O:=x.trans (p.mono ac);clear K)
   | (at_builtin;refine wpList_append_lies _ rfl _ _ 52 rfl w.heap.size 67 j0 (.agg #[.int .i64 0,.int .i64 0,.string ⟨#[]⟩,.int .i64 0,.int .i64 0,.string ⟨#[]⟩,.slice none 0 0,.slice none 0 0]) 8 112 underlying52 ab X Z T rfl (by decide) _ _ _ rfl (Jv.o.alloc _) ⟨C.heap.size,0,none⟩ 1 1 [.int .i64 e.k,.int .i64 e.op,.string e.nm,.int .i64 e.v.k,.int .i64 e.v.n,.string e.v.s,.slice A5 e.v.l.length c5,.slice I e.ar.length J] rfl rfl ?d1 ?d2 (by decide) ?d3 ?d4 ?d5 _ rfl ?_))
  case d1=>exact World.news_of_block (ah.new C 67 _)
  case d2=>intro u hu;simp only[bm,cg,or_false] at hu;rcases hu with rfl | rfl | rfl | rfl | rfl | rfl | rfl | rfl <;> rfl
  case d3=>unfold maxLen;omega
  case d4=>omega
  case d5=>simp;omega
  intro g4 RN w4 z D lu ae;have H:=Jv.o.alloc (.cells (Ag e A5 c5 I e.ar.length J) 67 (0,0));have E:(C.alloc (.cells (Ag e A5 c5 I e.ar.length J) 67 (0,0))).heap.size=C.heap.size+1:=by simp
  have aa:=qh (show ExS w.heap.size w4 (bd (some ⟨g4,0,none⟩) (k+1) RN) (l.take (k+1)) by
   rw[jr.o];refine ExS.push (cs:=y) (ds:=[ao bb e.k,ao bb e.op,bc e.nm,ao bb e.v.k,ao bb e.v.n,bc e.v.s,bd A5 e.v.l.length c5,bd I e.ar.length J]) (v:=bd Q k R) (by rw[m];exact H) (W.o _ O) (((PV.o.keep (aK.of p)).up p.size).imp (λ q N _=>⟨by omega,λ e=>by have:=M q e;omega⟩)) rfl (by rw[m];exact z) D ?_;rcases lu with e | e
   .exact .inl e.symm
   .exact .inr (congrArg some (e.trans E.symm)))
  have S:=qh ((t.trans (O.mono V)).grown D (by omega) (λ g hg=>(M g hg).1));clear H;go_wp2_with fail;go_roundw
  case rel=>exact⟨k+1,by go_num,aV.o,aa,S⟩
  case measure =>
   have:=aV.o;simp[intOf];omega
mutual
theorem Gv:∀ e:Ex,aaB e
 | .mk _ _ _ _ ar=>Po (e:=.mk _ _ _ _ ar) (zI (yF ar))
theorem yF:∀ l:List Ex,∀ e∈l,aaB e
 | [],_,h=>by cases h
 | a :: r,e,h=>by
  rcases bm.1 h with q | q
  .rw[q];exact Gv a
  .exact yF r e q
end
theorem Di (l:List Ex):aaC l:=zI (yF l)
def agu:Go.Shelf.Ren:=⟨fun | 41=>61 | n=>n,fun | 22=>53 | 23=>9 | 4=>4 | n=>n,fun | n=>n⟩
theorem Uc:Go.Proofs.SlLaysE0.n41 lM agu:={
 mixed:=by kernel_rfl
 f41:=⟨f61.name,by decide,func61.trans (congrArg some (by kernel_rfl))⟩
 t4:=underlying4
 a4:=isAgg4
 z4:=sizeOf4
 v4:=zeroValue4
 t22:=underlying53
 a22:=isAgg53
 z22:=sizeOf53
 v22:=zeroValue53 }
theorem aoe {a:Func} {s:Tmp} {tmps:Array Value} {w4:World} {g:Nat} {cs:List Value} {Q:Ending->World->Prop} (e:a.results = #[.cell s 59]) (d:tmps[s]?.getD undef = be (some ⟨g,0,none⟩)) (f:cs.length=19) (B:ah w4 g 59 cs.toArray) (h:Q (bg (.agg cs.toArray)) w4) :
  bodyPost lM a Q Exit.ret { tmps:=tmps,defers:=[] } w4:=by
 have c:(loadVar 59 ⟨g,0,none⟩).run lM w4 = .ok (.agg cs.toArray) w4:=run_loadVar_mid w4 g 0 59 cs _ (λ j v b=>by rw[Nat.zero_add,B.cell];simpa using b) underlying59 rfl (by rw[f];kernel_rfl);exact bodyPost_ret (v:=.agg cs.toArray) (by simp[results,e,d,c,Instr.loadAt,Sem.run_bind,Sem.run_pure,asAddr,Result.andThen_ok]) rfl h
def lN.cu (a:lN):Nat:=yD a.only+a.rs.length+(a.ch.map (λ r=>r.must.bl+r.ph.length+1)).sum
mutual
def ItemD.cu:ItemD->Nat
 | .mk _ _ iff ph items _ cnt _ ans cmp=>yD iff+yD cnt+yD cmp+ph.length+ans.cu+1+Fp items
def Fp:List ItemD->Nat
 | []=>0
 | a :: r=>a.cu+Fp r
end
theorem Ud (x:ItemD):x.cu=yD x.iff+yD x.cnt+yD x.cmp+x.ph.length+x.ans.cu+1+Fp x.items:=by cases x;rw[ItemD.cu];rfl
theorem Ue {a:ItemD}:∀ {l:List ItemD},a∈l->a.cu<=Fp l
 | b :: r,h=>by
  rw[Fp];rcases bm.1 h with e | e
  .rw[e];omega
  .have:=Ue e;omega
theorem D9:∀ l:List ItemD,l.length<=Fp l
 | []=>br _
 | a :: r=>by rw[Fp,bS,Ud];have:=D9 r;omega
def nX (w:World) (p:Nat->Prop) (A:Option Addr) (l:List Ex):Prop:=∃ cs,ik w p w.heap.size 8 A l.length cs/\∀ i (h:i<l.length),bY w p w.heap.size l[i] ((cs.drop (i*8)).take 8)
theorem nX.keep {w w':World} {p:Nat->Prop} {A:Option Addr} {l:List Ex} (h:nX w p A l) (a:aK p w w'):nX w' p A l:=by
 obtain⟨cs,d,c⟩:=h;exact⟨cs,(d.keep a).up a.1,λ i b=>((c i b).keep a).up a.1⟩
theorem nX.imp {w:World} {p q:Nat->Prop} {A:Option Addr} {l:List Ex} (h:nX w p A l) (a:∀ k,p k->k<w.heap.size->q k):nX w q A l:=by
 obtain⟨cs,c,g⟩:=h;refine⟨cs,⟨c.r,λ d ad e=>a _ (c.l d ad e) ?_⟩,λ i f=>(g i f).imp a⟩;obtain⟨m,b,j,-⟩:=c.r.2 d;rw[e] at b;injection b with b;rw[b];exact j
def pU (b:Nat) (w:World) (l:List Ex) (v:Value):Prop:=∃ A c,v = bd A l.length c/\nX w (λ k=>b<=k) A l
theorem pU.keep {b:Nat} {w w':World} {l:List Ex} {v:Value} (h:pU b w l v) (d:DD w w'):pU b w' l v:=by
 obtain⟨A,c,e,a⟩:=h;exact⟨A,c,e,a.keep (aK.of d)⟩
theorem pU.sets {b g:Nat} {w w':World} {l:List Ex} {v:Value} (h:pU b w l v) (d:aC g w w') (f:g<b):pU b w' l v:=by
 obtain⟨A,c,e,a⟩:=h;exact⟨A,c,e,a.keep (d.stay λ k i=>by omega)⟩
structure R1 (w cur:World) (x:ItemD) (ci:List Value) (o1 o3:Option Value):Prop where
 bel:DD w cur
 le:w.heap.size+2<=cur.heap.size
 b1:ah cur w.heap.size 59 ci.toArray
 b2:ah cur (w.heap.size+1) 59 #[ao bb 0,bc ⟨#[]⟩,bd none 0 0,bd none 0 0,bd none 0 0,bf false,bd none 0 0,bc ⟨#[]⟩,ao bb 0,ao bb 0,ao bb 0,ao bb 0,bc ⟨#[]⟩,bd none 0 0,bf false,bd none 0 0,bf false,bd none 0 0,bd none 0 0]
 e1:∀ v,o1=some v->pU (w.heap.size+2) cur x.iff v
 e3:∀ v,o3=some v->pU (w.heap.size+2) cur x.cmp v
theorem R1.later {w cur w':World} {x:ItemD} {ci:List Value} {b o3:Option Value} (h:R1 w cur x ci b o3) (a:DD cur w'):R1 w w' x ci b o3:=
 ⟨h.bel.trans (a.mono h.bel.size),bk h.le a.size,h.b1.below a h.b1.lt,h.b2.below a h.b2.lt,λ v e=>(h.e1 v e).keep a,λ v e=>(h.e3 v e).keep a⟩
structure R2 (w cur:World) (x:ItemD) (ci:List Value):Prop where
 bel:DD w cur
 le:w.heap.size+2<=cur.heap.size
 b1:ah cur w.heap.size 59 ci.toArray
 b2:ah cur (w.heap.size+1) 59 #[ao bb 0,bc ⟨#[]⟩,bd none 0 0,bd none 0 0,bd none 0 0,bf false,bd none 0 0,bc ⟨#[]⟩,ao bb 0,ao bb 0,ao bb 0,ao bb 0,bc ⟨#[]⟩,bd none 0 0,bf false,bd none 0 0,bf false,bd none 0 0,bd none 0 0]
 h19:ci.length=19
 h1c:∀ v∈ci,v.oneCell'=true
 e1:∃ v,ci[2]?=some v/\pU (w.heap.size+2) cur x.iff v
 e3:∃ v,ci[18]?=some v/\pU (w.heap.size+2) cur x.cmp v
theorem R1.end_ {w cur:World} {x:ItemD} {ci:List Value} {v1 v2 v3:Value} (h:R1 w cur x ci (some v1) (some v3)) (a:ci.length=19) (c:∀ v∈ci,v.oneCell'=true) (i:v2.oneCell'=true) :
  R2 w (((cur.setCell ⟨w.heap.size,2,none⟩ v1).setCell ⟨w.heap.size,6,none⟩ v2).setCell ⟨w.heap.size,18,none⟩ v3) x (((ci.set 2 v1).set 6 v2).set 18 v3):=by
 have b:aC w.heap.size cur (((cur.setCell ⟨w.heap.size,2,none⟩ v1).setCell ⟨w.heap.size,6,none⟩ v2).setCell ⟨w.heap.size,18,none⟩ v3):=(((aC.refl _ _).set 2 v1).set 6 v2).set 18 v3;have B:=(((h.b1.bP 2 v1).bP 6 v2).bP 18 v3);have d:=h.e1 v1 rfl;have e3:=h.e3 v3 rfl;obtain⟨A1,c1,g,-⟩:=id d;obtain⟨A3,c3,f,-⟩:=id e3;refine⟨h.bel.trans (b.below (bo _)),by rw[b.size];exact h.le,by simpa using B,b.blk h.b2 (by omega),by simp[a],λ v e=>?_,⟨v1,by simp[a],d.sets b (by omega)⟩,⟨v3,by simp[a],e3.sets b (by omega)⟩⟩;rcases bv e with q | q
 .rcases bv q with q | q
  .rcases bv q with q | q
   .exact c v q
   .rw[q,g];rfl
  .rw[q];exact i
 .rw[q,f];rfl
theorem R1.call {w:World} {x:ItemD} {ci:List Value} {l:List Ex} {A:Option Addr} {c B:Nat} (t:aF bC 8 w B A l) (m:B<=w.heap.size) (d:yD l<=1048576) {cur:World} {g o3:Option Value} (h:R1 w cur x ci g o3) :
  Calls lM 79 #[bd A l.length c] cur λ f w'=>∃ A' c',f = bg (bd A' l.length c')/\pU (w.heap.size+2) w' l (bd A' l.length c')/\R1 w w' x ci g o3:=by
 have j:Below B w cur:=h.bel.mono m;refine (Di l cur B A c (t.keep (λ _ _ q=>q.keep j) j) (bk m h.bel.size) d).mono λ f w' o=>?_;obtain⟨⟨A',c',p,-,cs,s,r⟩,b⟩:=o;have a:=h.le;exact⟨A',c',p,⟨A',c',rfl,cs,s.impl λ k e=>bk a e,λ i n=>(r i n).imp λ k e _=>bk a e⟩,h.later b⟩
structure R4 (w w1 cur:World) (v1 v3:Value) (ci:List Value):Prop where
 bel:DD w cur
 stay:aK (λ k=>w.heap.size+2<=k) w1 cur
 le:w.heap.size+2<=w1.heap.size
 b1:ah cur w.heap.size 59 ci.toArray
 b2:ah cur (w.heap.size+1) 59 #[ao bb 0,bc ⟨#[]⟩,bd none 0 0,bd none 0 0,bd none 0 0,bf false,bd none 0 0,bc ⟨#[]⟩,ao bb 0,ao bb 0,ao bb 0,ao bb 0,bc ⟨#[]⟩,bd none 0 0,bf false,bd none 0 0,bf false,bd none 0 0,bd none 0 0]
 h19:ci.length=19
 h1c:∀ v∈ci,v.oneCell'=true
 e1:ci[2]?=some v1
 e3:ci[18]?=some v3
theorem R2.go {w cur:World} {x:ItemD} {ci:List Value} (h:R2 w cur x ci):∃ v1 v3,pU (w.heap.size+2) cur x.iff v1/\pU (w.heap.size+2) cur x.cmp v3/\R4 w cur cur v1 v3 ci:=by
 obtain⟨v1,a,b⟩:=h.e1;obtain⟨v3,e3,c⟩:=h.e3;exact⟨v1,v3,b,c,h.bel,⟨bo _,λ _ _ _=>rfl⟩,h.le,h.b1,h.b2,h.h19,h.h1c,a,e3⟩
section
variable {w w1 cur w':World} {v1 v3:Value} {ci:List Value}
theorem R4.size (h:R4 w w1 cur v1 v3 ci):w.heap.size+2<=cur.heap.size:=bk h.le h.stay.1
theorem R4.move (h:R4 w w1 cur v1 v3 ci) (b:Below (w.heap.size+2) cur w') (c:aK (λ k=>w.heap.size+2<=k/\k<w1.heap.size) cur w'):R4 w w1 w' v1 v3 ci:=
 ⟨h.bel.trans (b.mono (by omega)),⟨bk h.stay.1 c.1,λ k d a=>(c.2 k ⟨d,a⟩ (Nat.lt_of_lt_of_le a h.stay.1)).trans (h.stay.2 k d a)⟩,h.le,h.b1.below b (by omega),h.b2.below b (by omega),h.h19,h.h1c,h.e1,h.e3⟩
theorem R4.later (h:R4 w w1 cur v1 v3 ci) (a:DD cur w'):R4 w w1 w' v1 v3 ci:=h.move (a.mono h.size) ⟨a.size,λ k _ b=>a.block k b⟩
theorem R4.far (h:R4 w w1 cur v1 v3 ci) {g:Nat} (a:aC g cur w') (b:w1.heap.size<=g):R4 w w1 w' v1 v3 ci:=h.move (a.below (bk h.le b)) (a.stay λ k c=>by omega)
theorem R4.grown (h:R4 w w1 cur v1 v3 ci) {a:Option Nat} (c:cur.grownBy w' a) (b:∀ g,a=some g->w1.heap.size<=g):R4 w w1 w' v1 v3 ci:=
 h.move ((Below.refl _ _).grown c h.size (λ g e=>bk h.le (b g e))) (aK.grown c λ k d e=>by have:=b k e.symm;omega)
theorem R4.set (h:R4 w w1 cur v1 v3 ci) (i:Nat) {v:Value} (d:i≠2) (b:i≠18) (c:v.oneCell'=true):R4 w w1 (cur.setCell ⟨w.heap.size,i,none⟩ v) v1 v3 (ci.set i v):=by
 have a:aC w.heap.size cur (cur.setCell ⟨w.heap.size,i,none⟩ v):=(aC.refl _ _).set i v;have B:=h.b1.bP i v;refine⟨h.bel.trans (a.below (bo _)),⟨by rw[a.size];exact h.stay.1,λ k f g=>(a.far k (by omega)).trans (h.stay.2 k f g)⟩,h.le,by simpa using B,a.blk h.b2 (by omega),by simp[h.h19],λ u e=>?_,by rw[bN d];exact h.e1,by rw[bN b];exact h.e3⟩;rcases bv e with q | q
 .exact h.h1c u q
 .rw[q];exact c
theorem R4.cell (h:R4 w w1 cur v1 v3 ci) {i:Nat} {u:Value} (a:ci[i]?=some u):cur.cell? ⟨w.heap.size,i,none⟩=some u/\cur.frozen? ⟨w.heap.size,i,none⟩=false:=⟨by rw[h.b1.cell];simpa using a,h.b1.frozen _⟩
end
def R5 (w w1:World) (v1 v3:Value) (ci:List Value) (g:Nat) (an:List Value) (cur:World):Prop:=R4 w w1 cur v1 v3 ci/\ah cur g 57 an.toArray/\w1.heap.size<=g/\an.length=10/\∀ v∈an,v.oneCell'=true
theorem R5.later {w w1 cur w':World} {v1 v3:Value} {ci an:List Value} {g:Nat} (h:R5 w w1 v1 v3 ci g an cur) (a:DD cur w'):R5 w w1 v1 v3 ci g an w':=⟨h.1.later a,h.2.1.below a h.2.1.lt,h.2.2⟩
theorem R5.drew {w w1 cur:World} {v1 v3:Value} {ci an:List Value} {g:Nat} (h:R5 w w1 v1 v3 ci g an cur):R5 w w1 v1 v3 ci g an cur.drew:=h.later (Below.refl _ _).drew
theorem R5.set {w w1 cur:World} {v1 v3:Value} {ci an:List Value} {g:Nat} (h:R5 w w1 v1 v3 ci g an cur) (i:Nat) {v:Value} (b:v.oneCell'=true):R5 w w1 v1 v3 ci g (an.set i v) (cur.setCell ⟨g,i,none⟩ v):=by
 obtain⟨j,e,a,c,d⟩:=h;refine⟨j.far ((aC.refl _ _).set i v) a,by simpa using e.bP i v,a,by simp[c],λ u f=>?_⟩;rcases bv f with q | q
 .exact d u q
 .rw[q];exact b
theorem R5.cell {w w1 cur:World} {v1 v3:Value} {ci an:List Value} {g:Nat} (h:R5 w w1 v1 v3 ci g an cur) {i:Nat} {u:Value} (a:an[i]?=some u):cur.cell? ⟨g,i,none⟩=some u/\cur.frozen? ⟨g,i,none⟩=false:=⟨by rw[h.2.1.cell];simpa using a,h.2.1.frozen _⟩
theorem R5.grown {w w1 cur w':World} {v1 v3:Value} {ci an:List Value} {g:Nat} (h:R5 w w1 v1 v3 ci g an cur) {a:Option Nat} (c:cur.grownBy w' a) (b:∀ k,a=some k->g<k):R5 w w1 v1 v3 ci g an w':=
 ⟨h.1.grown c λ k e=>by have:=b k e;have:=h.2.2.1;omega,h.2.1.grown c λ e=>by have:=b g e.symm;omega,h.2.2⟩
def S9 (P:World->Prop) (b:Nat) (T:TypeId) (size:Nat) (v:Value) (n:Nat) (xs:List Value) (g:Nat) (ds:List Value) (cur:World):Prop:=P cur/\cur.ownsRow b T size v n xs/\ah cur g T ds.toArray
theorem S9.later {P:World->Prop} (c:∀ w w',P w->DD w w'->P w') {b size n g:Nat} {T:TypeId} {v:Value} {xs ds:List Value} {cur w':World} (h:S9 P b T size v n xs g ds cur) (a:DD cur w'):S9 P b T size v n xs g ds w':=⟨c _ _ h.1 a,aQ h.2.1 a,h.2.2.below a h.2.2.lt⟩
theorem S9.cell {P:World->Prop} {b size n g:Nat} {T:TypeId} {v:Value} {xs ds:List Value} {cur:World} (h:S9 P b T size v n xs g ds cur) {i:Nat} {u:Value} (a:ds[i]?=some u):cur.cell? ⟨g,i,none⟩=some u:=by rw[h.2.2.cell];simpa using a
theorem aof {α:Type}:∀ {cs:List α},cs.length=10->∃ d j a g f h i e b c,cs = [d,j,a,g,f,h,i,e,b,c]
 | [d,j,a,g,f,h,i,e,b,c],_=>⟨d,j,a,g,f,h,i,e,b,c,rfl⟩
theorem R4.mid {w w1 cur:World} {d e:Value} {ci an:List Value} (h:R4 w w1 cur d e ci) (g:an.length=10) (a:∀ v∈an,v.oneCell'=true):∃ f,R4 w w1 (cur.setCells w.heap.size 8 an) d e f/\f[4]?=ci[4]?:=by
 have b:aC w.heap.size cur (cur.setCells w.heap.size 8 an):=aC.many an 8 (aC.refl _ _);obtain⟨v0,v1,v2,v3,i,v5,v6,v7,v8,v9,v10,v11,v12,v13,v14,v15,v16,v17,v18,rfl⟩:=agc h.h19;have B:=ah.mid (post:=[v18]) an [v8,v9,v10,v11,v12,v13,v14,v15,v16,v17] [v0,v1,v2,v3,i,v5,v6,v7] h.b1 g.symm;obtain⟨s,r,j,o,n,l,p,t,q,m,rfl⟩:=aof g;refine⟨[v0,v1,v2,v3,i,v5,v6,v7,s,r,j,o,n,l,p,t,q,m,v18],⟨h.bel.trans (b.below (bo _)),⟨by rw[b.size];exact h.stay.1,λ k u x=>(b.far k (by omega)).trans (h.stay.2 k u x)⟩,h.le,B,b.blk h.b2 (by omega),rfl,λ v c=>?_,h.e1,h.e3⟩,rfl⟩;simp only[bm,cg,or_false] at c;rcases c with rfl | rfl | rfl | rfl | rfl | rfl | rfl | rfl | rfl | rfl | rfl | rfl | rfl | rfl | rfl | rfl | rfl | rfl | rfl
 .exact h.h1c _ (by simp)
 .exact h.h1c _ (by simp)
 .exact h.h1c _ (by simp)
 .exact h.h1c _ (by simp)
 .exact h.h1c _ (by simp)
 .exact h.h1c _ (by simp)
 .exact h.h1c _ (by simp)
 .exact h.h1c _ (by simp)
 .exact a _ (by simp)
 .exact a _ (by simp)
 .exact a _ (by simp)
 .exact a _ (by simp)
 .exact a _ (by simp)
 .exact a _ (by simp)
 .exact a _ (by simp)
 .exact a _ (by simp)
 .exact a _ (by simp)
 .exact a _ (by simp)
 .exact h.h1c _ (by simp)
end
section
open Go.RowKit
attribute [local go_sem ↓] Go.wp_at_zero Go.wp_at_succ ld_item st_item ld_ans st_ans ld_rule st_rule
theorem R1.cells {w cur:World} {x:ItemD} {ci:List Value} {a b:Option Value} (h:R1 w cur x ci a b):cur.frozen? ⟨w.heap.size,2,none⟩=false/\cur.frozen? ⟨w.heap.size,6,none⟩=false/\cur.frozen? ⟨w.heap.size,18,none⟩=false/\cur.cell? ⟨w.heap.size,2,none⟩=ci[2]?/\cur.cell? ⟨w.heap.size,6,none⟩=ci[6]?/\cur.cell? ⟨w.heap.size,18,none⟩=ci[18]?:=
 ⟨h.b1.frozen _,h.b1.frozen _,h.b1.frozen _,by rw[h.b1.cell];simp,by rw[h.b1.cell];simp,by rw[h.b1.cell];simp⟩
theorem R1.drew {w cur:World} {x:ItemD} {ci:List Value} {a o3:Option Value} (h:R1 w cur x ci a o3):R1 w cur.drew x ci a o3:=h.later (Below.refl _ _).drew
theorem aaD:(lM.info? 144).map (λ i=>(i.zero,i.size,i.bytes))=some (some (.agg #[.int .i64 0,.int .i64 0,.string ⟨#[]⟩,.int .i64 0,.int .i64 0,.string ⟨#[]⟩,.slice none 0 0,.slice none 0 0,.bool false,.slice none 0 0]),10,144):=by kernel_rfl
theorem Uf:∀ l:List dY,l.length<=(l.map (λ r=>r.must.bl+r.ph.length+1)).sum
 | []=>br _
 | a :: r=>by have:=Uf r;simp only[bq,cj,bS];omega
theorem Lc {a:dY}:∀ {l:List dY},a∈l->a.must.bl+a.ph.length+1<=(l.map (λ r=>r.must.bl+r.ph.length+1)).sum
 | b :: r,h=>by
  simp only[bq,cj];rcases bm.1 h with e | e
  .rw[e];omega
  .have:=Lc e;omega
theorem agv:(lM.info? 59).map (λ i=>(i.zero,i.size,i.bytes))=some (some (.agg #[.int .i64 0,.string ⟨#[]⟩,.slice none 0 0,.slice none 0 0,.slice none 0 0,.bool false,.slice none 0 0,.string ⟨#[]⟩,.int .i64 0,.int .i64 0,.int .i64 0,.int .i64 0,.string ⟨#[]⟩,.slice none 0 0,.bool false,.slice none 0 0,.bool false,.slice none 0 0,.slice none 0 0]),19,304):=by kernel_rfl
theorem bs_item (ρ:Operand->Value) (dst:Option Tmp) (a:Operand) (ty:TypeId) (pos:String) (after:Array Edge) (guard:Option (Nat × Bool)) :
  execOp ρ { dst,op:=.buildSlice 24 1 #[(0,a)],type:=ty,pos,after,guard } = (do pure (.value (<- BSx 24 1 #[(0,ρ a)]))):=by
 show (do pure (Next.value (<- BSx 24 1 ((#[(0,a)]:Array (Nat × Operand)).map λ (i,x)=>(i,ρ x)))))=_;rw[show ((#[(0,a)]:Array (Nat × Operand)).map λ (i,x)=>(i,ρ x)) = #[(0,ρ a)] by simp]
theorem adB {w:World} {cs:List Value} (a:cs.length=19):(BSx 24 1 #[(0,.agg cs.toArray)]).run lM w = .ok (bd (some ⟨w.heap.size,0,none⟩) 1 1) (w.alloc (.cells cs.toArray 59 (0,0))):=by
 obtain⟨v0,v1,v2,v3,b,v5,v6,v7,v8,v9,v10,v11,v12,v13,v14,v15,v16,v17,v18,rfl⟩:=agc a;kernel_rfl
attribute [local go_sem ↓] bs_item
end
open Go.RowKit
attribute [local go_sem ↓] Go.wp_at_zero Go.wp_at_succ ld_item st_item
theorem zH.ok {f:aI} {x:jS} {e:Ending} {w':World} (i:aX f=0) (h:zH f x e w'):∃ B0 a b d g A c,e = bg (.tuple #[be (some ⟨a,0,none⟩),ao bb 0])/\aT w' B0 a b d g {x with AN:=A,cn:=c} f (ai f) (nH f).2:=by
 rcases h with ⟨j,-⟩ | ⟨-,h⟩
 .exact absurd i j
 .exact h
theorem pU.low {b:Nat} {w:World} {l:List Ex} {v:Value} (h:pU b w l v):pU 0 w l v:=by
 obtain⟨A,c,e,a⟩:=h;exact⟨A,c,e,a.imp λ k _ _=>br _⟩
theorem pU.ge {b a:Nat} {w:World} {l:List Ex} {v:Value} (h:pU a w l v) (g:b<=a):pU b w l v:=by
 obtain⟨A,c,e,f⟩:=h;exact⟨A,c,e,f.imp λ k d _=>bk g d⟩
structure F7 (w1 cur:World) (d:au) (g:Nat) (o1:Option (List Value)) (o2:Option Value):Prop where
 bel:DD w1 cur
 blk:ah cur g 59 #[ao bb 0,bc ⟨#[]⟩,bd none 0 0,bd none 0 0,bd none 0 0,bf false,bd none 0 0,bc ⟨#[]⟩,ao bb 0,ao bb 0,ao bb 0,ao bb 0,bc ⟨#[]⟩,bd none 0 0,bf false,bd none 0 0,bf false,bd none 0 0,bd none 0 0]
 lt:g<w1.heap.size
 it:∀ co,o1=some co->co.length=19/\(∀ v∈co,v.oneCell'=true)/\(∃ v,co[2]?=some v/\pU w1.heap.size cur d.it.iff v)/\∃ v,co[18]?=some v/\pU w1.heap.size cur d.it.cmp v
 lo:∀ v,o2=some v->cur.ownsRow w1.heap.size 9 1 v d.lo.length (dP d.lo)
theorem F7.later {w1 cur w':World} {d:au} {g:Nat} {b:Option (List Value)} {o2:Option Value} (h:F7 w1 cur d g b o2) (a:DD cur w'):F7 w1 w' d g b o2:=by
 refine⟨h.bel.trans (a.mono h.bel.size),h.blk.below a h.blk.lt,h.lt,λ j e=>?_,λ v e=>aQ (h.lo v e) a⟩;obtain⟨l,i,⟨v,c,k⟩,n,m,f⟩:=h.it j e;exact⟨l,i,⟨v,c,k.keep a⟩,n,m,f.keep a⟩
theorem F7.drew {w1 cur:World} {d:au} {g:Nat} {a:Option (List Value)} {o2:Option Value} (h:F7 w1 cur d g a o2):F7 w1 cur.drew d g a o2:=h.later (Below.refl _ _).drew
theorem F7.st {w1 cur:World} {d:au} {g:Nat} {b:Option (List Value)} {f:Option Value} (h:F7 w1 cur d g b f) {a:List Value} (e:b=some a):(Hr 59 (be (some ⟨g,0,none⟩)) (.agg a.toArray)).run lM cur = .ok () (cur.setCells g 0 a):=by
 obtain⟨c,i,-⟩:=h.it a e;exact D8 h.blk (by rw[c];decide) (by rw[c];kernel_rfl) i
theorem F7.end_ {w1 cur:World} {d:au} {g:Nat} {a:List Value} {v:Value} (h:F7 w1 cur d g (some a) (some v)):ah (cur.setCells g 0 a) g 59 a.toArray/\∃ c cl,v = bd c d.lo.length cl/\aC g cur (cur.setCells g 0 a)/\a.length=19/\(∀ v∈a,v.oneCell'=true)/\(∃ v,a[2]?=some v/\pU 0 (cur.setCells g 0 a) d.it.iff v)/\(∃ v,a[18]?=some v/\pU 0 (cur.setCells g 0 a) d.it.cmp v)/\dA (cur.setCells g 0 a) (cur.setCells g 0 a).heap.size c d.lo/\d.lo.length<=cl:=by
 obtain⟨i,k,⟨u1,j,l⟩,u3,e3,m⟩:=h.it a rfl;have f:=h.lo v rfl;have b:=h.lt;obtain⟨c,cl,rfl⟩:=dX f;have e:aC g cur (cur.setCells g 0 a):=aC.many a 0 (aC.refl _ _);have B:=ah.mid (post:=[]) a [ao bb 0,bc ⟨#[]⟩,bd none 0 0,bd none 0 0,bd none 0 0,bf false,bd none 0 0,bc ⟨#[]⟩,ao bb 0,ao bb 0,ao bb 0,ao bb 0,bc ⟨#[]⟩,bd none 0 0,bf false,bd none 0 0,bf false,bd none 0 0,bd none 0 0] [] h.blk (by rw[i];rfl);rw[cf,b0] at B;exact⟨B,c,cl,rfl,e,i,k,⟨u1,j,(l.sets e b).low⟩,⟨u3,e3,(m.sets e b).low⟩,Reads.fB (e.own f b),vM f⟩
end Go.Proofs.YtcnagconagpkcaaGreatDoor
